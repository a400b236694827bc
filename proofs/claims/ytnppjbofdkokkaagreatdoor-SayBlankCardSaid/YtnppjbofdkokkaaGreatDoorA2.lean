/- Texts of this claim, one behind the other. -/
import Derived.Test.YtnppjbofdkokkaaGreatDoorA1
import Derived.Conc.LoneCalls
import Derived.Conc.LoneSelectN
import Derived.Conc.SmallLaws
import Derived.Laws.StructEq
import Derived.Scope
import Derived.ChangeKeysEq
import Derived.Shelf.Spec.SlicesInsertGrow
import Derived.Laws.LoneSync
import Derived.Laws.BytesString
import Derived.Laws.IdiomStrings
import Derived.Laws.Strings
import Derived.Lib.FieldsP
import Derived.Lib.ItoaNum
import Derived.Lib.ParseIntB
import Derived.Shelf.GgClosure.StringsIndexFunc
import Derived.Shelf.Strings.FieldsFuncGrows
import Derived.Shelf.Strings.FuncGrows
import Derived.Shelf.Strconv.ErrVarParseInt
import Derived.Shelf.Strconv.Itoa4
import Derived.Lib.Bytes2
import Derived.Handed
import Derived.SizedLaws
import Derived.Shelf.Vars
import Derived.Stop.LaidErr
import Derived.Lib.LaidTab
import Derived.LaidLaws
import Derived.Shelf.Bytes.SlIndexAt
import Derived.Shelf.Bytes.BufferK
import Derived.Shelf.Bytes.Bytes
import Derived.Shelf.Strings.Count
import Derived.Shelf.Strings.Split
import Derived.Shelf.Strings.Replace
import Derived.Shelf.Strings.Prefix
import Derived.Shelf.Strings.OnBuilder
import Derived.Test.YtnppjbofdkokkaaGreatDoorChecked
set_option linter.unusedVariables false
set_option linter.unusedSimpArgs false
namespace Go.Acq
open Go Go.RowKit
section rules
variable {C : Cx} {ops : Array Oper} {Q : Act → Prop} {l : List Nat} {E : Env} {H R : Heap} {i d : Nat} {ty : TypeId} {Zc : String} {af : Array Edge} {g : Option (Nat × Bool)}
theorem Ur {op : Op} {v : Value} (ho : ops[i]? = some ⟨some d, op, ty, Zc, af, g⟩) (hg : Zj ops E g = true) (hd : Nat.ble (d + 1) C.n = true) (hnd : ∀ c, op ≠ .defer c)
    (hr : ∀ a w, Fits C.n C.D E a → Inv C.w0 C.M w H → (execOp a.eval ⟨some d, op, ty, Zc, af, g⟩).run C.P w = .ok (.value v) w)
    (k : TQ C ops Q l ((d, v) :: E) H) (hns : ∀ cs b, op ≠ .select cs b := by simp) : TQ C ops Q (i :: l) E H := by
  intro a hf
  simp only [Kd, ho]
  refine ⟨hnd, hns, ?_⟩
  rw [if_pos (Z3n hf hg)]
  exact ⟨v, fun w hi => by rw [hr a w hf hi]; exact ⟨rfl, rfl⟩, k _ (hf.put hd v)⟩
theorem Xh {o : Oper} (q0_ : ops[i]? = some o ∧ gdN ops E o.guard = true ∧ o.dst = some d ∧ Nat.ble (d + 1) C.n = true) (k : TQ C ops Q l ((d, undef) :: E) H) (hnd : ∀ c, o.op ≠ .defer c := by simp) (hns : ∀ cs b, o.op ≠ .select cs b := by simp) : TQ C ops Q (i :: l) E H := by
 obtain ⟨ho, hg, hdst, hd⟩ := q0_
 intro a hf
 simp only [Kd, ho]
 refine ⟨hnd, hns, ?_⟩
 rw [if_neg (by rw [Z76 hf hg]; simp), hdst]
 exact k _ (hf.put hd _)
theorem Ki {t : Nat} {b b' : Bool} (ht : find E t = some (.bool b)) (hb : b = b') (k : TQ C ops Q l ((t, .bool b') :: E) H) : TQ C ops Q l E H := by
 subst hb
 intro a hf
 refine k a ⟨hf.size, hf.defers, fun u v hu => ?_⟩
 rw [Wx] at hu
 by_cases e : t = u
 · subst e; rw [if_pos rfl] at hu; injection hu with hu; subst hu; exact hf.get t _ ht
 · rw [if_neg e] at hu; exact hf.get u v hu
theorem Jh {f : FuncId} {xs : Array Operand} {at' : Array TypeId} {vs : List Value} {v : Value} {Post : Value → Heap → Prop} (hF : Zz C.P f = true)
    (q0_ : ops[i]? = some ⟨some d, .call ⟨.value (.func f), xs, at'⟩, ty, Zc, af, g⟩ ∧ Zj ops E g = true ∧ Nat.ble (d + 1) C.n = true ∧ Vj E xs.toList = some vs)
    (hc : ∀ w, Inv C.w0 C.M w H → Fnc C.P f vs.toArray w [] Post) (hv : ∀ u N, Post u N → u = v) (k : TQ C ops Q l ((d, v) :: E) H) : TQ C ops Q (i :: l) E H := by
  obtain ⟨ho, hg, hd, hx⟩ := q0_
  intro a hf
  simp only [Kd, ho]
  refine ⟨by simp, by simp, ?_⟩
  rw [if_pos (Z3n hf hg)]
  refine ⟨v, fun w hi => ?_, k _ (hf.put hd v)⟩
  have e1 : xs.map a.eval = vs.toArray := by apply Array.ext'; simpa using Js hf hx
  have : (execOp a.eval ⟨some d, .call ⟨.value (.func f), xs, at'⟩, ty, Zc, af, g⟩).run C.P w = .ok (.enter f vs.toArray) w := by
    simp [execOp, resolve, Deferred.ofValue, invoke, Act.eval, e1, Gs hF]
  rw [this]
  refine ⟨rfl, Calls.mono (hc w hi) ?_⟩
  rintro e w' ⟨u, N, hP, rfl, hN⟩
  exact ⟨by rw [hv u N hP], (hi.join0 hN).perm List.perm_append_comm |>.left⟩
theorem TQ.move {x : Operand} {v : Value} (q0_ : ops[i]? = some ⟨some d, .move x, ty, Zc, af, g⟩ ∧ Zj ops E g = true ∧ Nat.ble (d + 1) C.n = true ∧ ev E x = some v)
    (k : TQ C ops Q l ((d, v) :: E) H) : TQ C ops Q (i :: l) E H := have ⟨ho, hg, hd, hx⟩ := q0_;
  Ur ho hg hd (by simp) (fun a w hf _ => by simp [execOp, hf.ev hx]) k
theorem TQ.assign {x : Operand} {v : Value} (q0_ : ops[i]? = some ⟨some d, .assign x, ty, Zc, af, g⟩ ∧ Zj ops E g = true ∧ Nat.ble (d + 1) C.n = true ∧ ev E x = some v)
    (k : TQ C ops Q l ((d, v) :: E) H) : TQ C ops Q (i :: l) E H := have ⟨ho, hg, hd, hx⟩ := q0_;
  Ur ho hg hd (by simp) (fun a w hf _ => by simp [execOp, hf.ev hx]) k
theorem Z43 {c x y : Operand} {v : Value} (q0_ : ops[i]? = some ⟨some d, .pick c x y, ty, Zc, af, g⟩ ∧ Zj ops E g = true ∧ Nat.ble (d + 1) C.n = true ∧ ev E c = some (.bool true) ∧ ev E x = some v) (k : TQ C ops Q l ((d, v) :: E) H) : TQ C ops Q (i :: l) E H := have ⟨ho, hg, hd, hc, hx⟩ := q0_;
  Ur ho hg hd (by simp) (fun a w hf _ => by simp [execOp, hf.ev hc, hf.ev hx, asBool]) k
theorem Z11 {c x y : Operand} {v : Value} (q0_ : ops[i]? = some ⟨some d, .pick c x y, ty, Zc, af, g⟩ ∧ Zj ops E g = true ∧ Nat.ble (d + 1) C.n = true ∧ ev E c = some (.bool false) ∧ ev E y = some v) (k : TQ C ops Q l ((d, v) :: E) H) : TQ C ops Q (i :: l) E H := have ⟨ho, hg, hd, hc, hx⟩ := q0_;
  Ur ho hg hd (by simp) (fun a w hf _ => by simp [execOp, hf.ev hc, hf.ev hx, asBool]) k
theorem Kb {op : BinOp} {t t2 : TypeId} {x y : Operand} {k : IntKind} {p q : Int} {v : Value}
    (q0_ : ops[i]? = some ⟨some d, .binOp op t x y t2, ty, Zc, af, g⟩ ∧ Zj ops E g = true ∧ Nat.ble (d + 1) C.n = true ∧ ev E x = some (.int k p) ∧ ev E y = some (.int k q) ∧ Gk op k p q = some v) (kk : TQ C ops Q l ((d, v) :: E) H) : TQ C ops Q (i :: l) E H := have ⟨ho, hg, hd, hx, hy, hv⟩ := q0_;
  Ur ho hg hd (by simp) (fun a w hf _ => by simp [execOp, hf.ev hx, hf.ev hy, eqGuard_at_int, Z7y hv]) kk
theorem TQ.add {t t2 : TypeId} {x y : Operand} {p q : Int}
    (ho : ops[i]? = some ⟨some d, .binOp .add t x y t2, ty, Zc, af, g⟩) (hg : Zj ops E g = true) (hd : Nat.ble (d + 1) C.n = true) (hx : ev E x = some (.int .i64 p)) (hy : ev E y = some (.int .i64 q))
    (h1 : -9223372036854775808 ≤ p + q) (h2 : p + q ≤ 9223372036854775807) (kk : TQ C ops Q l ((d, .int .i64 (p + q)) :: E) H) : TQ C ops Q (i :: l) E H :=
  Kb ⟨ho, hg, hd, hx, hy, (by simp only [Gk]; rw [Z3v h1 h2])⟩ kk
theorem TQ.extract {x : Operand} {n : Nat} {vs : Array Value} {v : Value} (q0_ : ops[i]? = some ⟨some d, .extract x n, ty, Zc, af, g⟩ ∧ Zj ops E g = true ∧ Nat.ble (d + 1) C.n = true ∧ ev E x = some (.tuple vs) ∧ vs[n]? = some v) (kk : TQ C ops Q l ((d, v) :: E) H) : TQ C ops Q (i :: l) E H := have ⟨ho, hg, hd, hx, hv⟩ := q0_;
  Ur ho hg hd (by simp) (fun a w hf _ => by simp [execOp, hf.ev hx, Instr.extract, hv]) kk
theorem TQ.fieldAddr {s : TypeId} {x : Operand} {f o b p : Nat} (ho : ops[i]? = some ⟨some d, .fieldAddr s x f, ty, Zc, af, g⟩) (hg : Zj ops E g = true) (hd : Nat.ble (d + 1) C.n = true)
    (hx : ev E x = some (.pointer (some ⟨b, p, none⟩))) (hT : Vt C.P s f = some o) (kk : TQ C ops Q l ((d, .pointer (some ⟨b, p + o, none⟩)) :: E) H) : TQ C ops Q (i :: l) E H :=
  Ur ho hg hd (by simp) (fun a w hf _ => by simp [execOp, hf.ev hx, Z53 hT]) kk
theorem Uq {s : TypeId} {x : Operand} {f o b : Nat} (q0_ : ops[i]? = some ⟨some d, .fieldAddr s x f, ty, Zc, af, g⟩ ∧ Zj ops E g = true ∧ Nat.ble (d + 1) C.n = true ∧ ev E x = some (.pointer (some ⟨b, 0, none⟩))) (hT : Vt C.P s f = some o) (kk : TQ C ops Q l ((d, .pointer (some ⟨b, o, none⟩)) :: E) H) : TQ C ops Q (i :: l) E H := have ⟨ho, hg, hd, hx⟩ := q0_;
  TQ.fieldAddr ho hg hd hx hT (by rw [Nat.zero_add]; exact kk)
theorem TQ.load {t : TypeId} {x : Operand} {ad : Addr} {v : Value} (ho : ops[i]? = some ⟨some d, .load t x, ty, Zc, af, g⟩) (hg : Zj ops E g = true) (hd : Nat.ble (d + 1) C.n = true)
    (hx : ev E x = some (.pointer (some ad))) (hT : Yz C.P t = true) (hc : ∀ w, Inv C.w0 C.M w H → w.cell? ad = some v)
    (kk : TQ C ops Q l ((d, v) :: E) H) : TQ C ops Q (i :: l) E H :=
  Ur ho hg hd (by simp) (fun a w hf hi => by simp [execOp, hf.ev hx, Instr.loadAt, Instr.sureAddr, Z5u hT (hc w hi)]) kk
theorem Uj {t T' : TypeId} {x : Operand} {b o : Nat} {cs : Array Value} {fr : Nat × Nat} {v : Value} (q0_ : ops[i]? = some ⟨some d, .load t x, ty, Zc, af, g⟩ ∧ Zj ops E g = true ∧ Nat.ble (d + 1) C.n = true ∧ ev E x = some (.pointer (some ⟨b, o, none⟩))) (hT : Yz C.P t = true) (hm : (some b, Obj.cells cs T' fr) ∈ H) (hv : cs[o]? = some v)
    (kk : TQ C ops Q l ((d, v) :: E) H) : TQ C ops Q (i :: l) E H := have ⟨ho, hg, hd, hx⟩ := q0_;
  TQ.load ho hg hd hx hT (fun w hi => by rw [hi.cell_own hm]; exact hv) kk
theorem TQ.loadS {t : TypeId} {x : Operand} {ad : Addr} {k : Nat} {cs : List Value} (ho : ops[i]? = some ⟨some d, .load t x, ty, Zc, af, g⟩) (hg : Zj ops E g = true) (hd : Nat.ble (d + 1) C.n = true)
    (hx : ev E x = some (.pointer (some ad))) (hT : Vk C.P t k = true) (hk : cs.length = k) (hc : ∀ w, Inv C.w0 C.M w H → ∀ j v, cs[j]? = some v → w.cell? (ad.add j) = some v)
    (kk : TQ C ops Q l ((d, .agg cs.toArray) :: E) H) : TQ C ops Q (i :: l) E H :=
  Ur ho hg hd (by simp) (fun a w hf hi => by simp [execOp, hf.ev hx, Instr.loadAt, Instr.sureAddr, Z5q hT hk (hc w hi)]) kk
theorem TQ.loadA {t T' : TypeId} {x : Operand} {b k : Nat} {cs : List Value} {fr : Nat × Nat} (q0_ : ops[i]? = some ⟨some d, .load t x, ty, Zc, af, g⟩ ∧ Zj ops E g = true ∧ Nat.ble (d + 1) C.n = true ∧ ev E x = some (.pointer (some ⟨b, 0, none⟩))) (hT : Vk C.P t k = true) (hm : (some b, Obj.cells cs.toArray T' fr) ∈ H) (hk : cs.length = k)
    (kk : TQ C ops Q l ((d, .agg cs.toArray) :: E) H) : TQ C ops Q (i :: l) E H := have ⟨ho, hg, hd, hx⟩ := q0_;
  TQ.loadS ho hg hd hx hT hk (fun w hi j v hv => by rw [Addr.add_mid, Nat.zero_add, hi.cell_own hm]; simpa using hv) kk
theorem TQ.ldI {t T' : TypeId} {x : Operand} {b o : Nat} {k : IntKind} {xs : List Int} {j : List Value} {fr : Nat × Nat} (ho : ops[i]? = some ⟨some d, .load t x, ty, Zc, af, g⟩) (hg : Zj ops E g = true) (hd : Nat.ble (d + 1) C.n = true)
    (hx : ev E x = some (.pointer (some ⟨b, o, none⟩))) (hT : Yz C.P t = true) (hm : (some b, Obj.cells (arr (intC k) xs j).toArray T' fr) ∈ H) (hv : o < xs.length)
    (kk : TQ C ops Q l ((d, .int k (xs.getD o 0)) :: E) H) : TQ C ops Q (i :: l) E H :=
  Uj ⟨ho, hg, hd, hx⟩ hT hm (by
    have := Z2e (f := intC k) (s := 1) (fun _ => rfl) 0 xs j o 0 hv (by omega)
    simpa using this) kk
theorem Z7x {t e : TypeId} {x y : Operand} {base : Option Addr} {n c s : Nat} {k : IntKind} {p : Int} (ho : ops[i]? = some ⟨some d, .indexAddr t x y, ty, Zc, af, g⟩) (hg : Zj ops E g = true) (hd : Nat.ble (d + 1) C.n = true)
    (hx : ev E x = some (.slice base n c)) (hy : ev E y = some (.int k p)) (ht : Yv C.P t = some e) (hs : Yi C.P e = some s) (hb : base = none → n = 0) (h0 : 0 ≤ p) (h1 : p < n)
    (kk : TQ C ops Q l ((d, .pointer (some (ea base (p.toNat * s)))) :: E) H) : TQ C ops Q (i :: l) E H :=
  Ur ho hg hd (by simp) (fun a w hf hi => by
    cases base with
    | none => exact absurd h1 (by simp [hb rfl]; omega)
    | some b =>
      have hu := Ud ht
      simp [execOp, hf.ev hx, hf.ev hy, Instr.indexAt, asIntOf, run_underlying hu, h0, h1, Jo hs, ea]) kk
theorem TQ.index {t e : TypeId} {x y : Operand} {b o n c s : Nat} {k : IntKind} {p : Int} (ho : ops[i]? = some ⟨some d, .indexAddr t x y, ty, Zc, af, g⟩) (hg : Zj ops E g = true) (hd : Nat.ble (d + 1) C.n = true)
    (hx : ev E x = some (.slice (some ⟨b, o, none⟩) n c)) (hy : ev E y = some (.int k p)) (ht : Yv C.P t = some e) (hs : Yi C.P e = some s) (h0 : 0 ≤ p) (h1 : p < n)
    (kk : TQ C ops Q l ((d, .pointer (some ⟨b, o + p.toNat * s, none⟩)) :: E) H) : TQ C ops Q (i :: l) E H :=
  Z7x ho hg hd hx hy ht hs (by simp) h0 h1 (by simpa [ea, Addr.add_mid] using kk)
theorem Zb7 {t e : TypeId} {x y : Operand} {b n c s : Nat} {k : IntKind} {p : Int} (ho : ops[i]? = some ⟨some d, .indexAddr t x y, ty, Zc, af, g⟩) (hg : Zj ops E g = true) (hd : Nat.ble (d + 1) C.n = true)
    (hx : ev E x = some (.slice (some ⟨b, 0, none⟩) n c)) (hy : ev E y = some (.int k p)) (ht : Yv C.P t = some e) (hs : Yi C.P e = some s) (h0 : 0 ≤ p) (h1 : p < n)
    (kk : TQ C ops Q l ((d, .pointer (some ⟨b, p.toNat * s, none⟩)) :: E) H) : TQ C ops Q (i :: l) E H :=
  TQ.index ho hg hd hx hy ht hs h0 h1 (by rw [Nat.zero_add]; exact kk)
theorem Zbt {t e : TypeId} {x y : Operand} {b n c : Nat} {k : IntKind} {p : Int} (ho : ops[i]? = some ⟨some d, .indexAddr t x y, ty, Zc, af, g⟩) (hg : Zj ops E g = true) (hd : Nat.ble (d + 1) C.n = true)
    (hx : ev E x = some (.slice (some ⟨b, 0, none⟩) n c)) (hy : ev E y = some (.int k p)) (ht : Yv C.P t = some e) (hs : Yi C.P e = some 1) (h0 : 0 ≤ p) (h1 : p < n)
    (kk : TQ C ops Q l ((d, .pointer (some ⟨b, p.toNat, none⟩)) :: E) H) : TQ C ops Q (i :: l) E H :=
  Zb7 ho hg hd hx hy ht hs h0 h1 (by rw [Nat.mul_one]; exact kk)
theorem TQ.len {t : TypeId} {at' : Array TypeId} {x : Operand} {e : TypeId} {base : Option Addr} {n c : Nat}
    (ho : ops[i]? = some ⟨some d, .call ⟨.builtin .len, #[x], at'⟩, ty, Zc, af, g⟩) (hg : Zj ops E g = true) (hd : Nat.ble (d + 1) C.n = true) (hat : at'[0]? = some t)
    (hx : ev E x = some (.slice base n c)) (ht : Yv C.P t = some e) (kk : TQ C ops Q l ((d, .int .i64 n) :: E) H) : TQ C ops Q (i :: l) E H :=
  Ur ho hg hd (by simp) (fun a w hf _ => by
    simp [execOp, resolve, invoke, builtin, hf.ev hx, Builtin.len_, hat, run_underlying (Ud ht), goInt]) kk
theorem Z8t {α : Type} {t : TypeId} {at' : Array TypeId} {x : Operand} {e : TypeId} {base : Option Addr} {n c : Nat} {xs : List α} (hn : xs.length = n)
    (q0_ : ops[i]? = some ⟨some d, .call ⟨.builtin .len, #[x], at'⟩, ty, Zc, af, g⟩ ∧ Zj ops E g = true ∧ Nat.ble (d + 1) C.n = true ∧ at'[0]? = some t ∧ ev E x = some (.slice base n c)) (ht : Yv C.P t = some e) (kk : TQ C ops Q l ((d, .int .i64 (xs.length : Int)) :: E) H) : TQ C ops Q (i :: l) E H := have ⟨ho, hg, hd, hat, hx⟩ := q0_;
  TQ.len ho hg hd hat hx ht (by rw [← hn]; exact kk)
theorem Kv {α : Type} {f : α → List Value} {M : List Nat} {w : World} {xs : List α} {t e : TypeId} {x y : Operand} {base : Option Addr} {n c s : Nat} {k : IntKind} {p : Int} (hr : RS w M f s base n c xs) (hp : inb p xs.length)
    (q0_ : ops[i]? = some ⟨some d, .indexAddr t x y, ty, Zc, af, g⟩ ∧ Zj ops E g = true ∧ Nat.ble (d + 1) C.n = true ∧ ev E x = some (.slice base n c) ∧ ev E y = some (.int k p)) (ht : Yv C.P t = some e) (hs : Yi C.P e = some s)
    (kk : TQ C ops Q l ((d, .pointer (some (ea base (p.toNat * s)))) :: E) H) : TQ C ops Q (i :: l) E H := have ⟨ho, hg, hd, hx, hy⟩ := q0_;
  Z7x ho hg hd hx hy ht hs hr.ro.nil hp.1 (by have := hp.2; rw [hr.len] at this; exact this) kk
theorem TQ.ix1 {α : Type} {xs : List α} {t e : TypeId} {x y : Operand} {b n c : Nat} {k : IntKind} {p : Int} (hn : xs.length = n) (hp : inb p xs.length)
    (q0_ : ops[i]? = some ⟨some d, .indexAddr t x y, ty, Zc, af, g⟩ ∧ Zj ops E g = true ∧ Nat.ble (d + 1) C.n = true ∧ ev E x = some (.slice (some ⟨b, 0, none⟩) n c) ∧ ev E y = some (.int k p)) (ht : Yv C.P t = some e) (hs : Yi C.P e = some 1)
    (kk : TQ C ops Q l ((d, .pointer (some ⟨b, p.toNat, none⟩)) :: E) H) : TQ C ops Q (i :: l) E H := have ⟨ho, hg, hd, hx, hy⟩ := q0_;
  Zbt ho hg hd hx hy ht hs hp.1 (by have := hp.2; rw [hn] at this; exact this) kk
theorem Ri {t : TypeId} {x : Operand} {base : Option Addr} {n c : Nat} {k : IntKind} {p : Int} {xs : List Int} (hr : RS C.w0 C.M (intC k) 1 base n c xs) (hp : inb p xs.length) (q0_ : ops[i]? = some ⟨some d, .load t x, ty, Zc, af, g⟩ ∧ Zj ops E g = true ∧ Nat.ble (d + 1) C.n = true ∧ ev E x = some (.pointer (some (ea base (p.toNat * 1))))) (hT : Yz C.P t = true)
    (kk : TQ C ops Q l ((d, .int k (xs.getD p.toNat 0)) :: E) H) : TQ C ops Q (i :: l) E H := have ⟨ho, hg, hd, hx⟩ := q0_;
  TQ.load ho hg hd hx hT (fun w hi => by
    have := (hr.ro.monoM hr.far hi).at 0 (o := p.toNat) (c := 0) (Uk hp) (by omega)
    simpa using this) kk
theorem TQ.ldFR {α : Type} {f : α → List Value} {s : Nat} {t : TypeId} {x : Operand} {base : Option Addr} {n c q : Nat} {p : Int} {xs : List α} {v : Value} (dflt : α) (hr : RS C.w0 C.M f s base n c xs) (hp : inb p xs.length) (hv : (f (xs.getD p.toNat dflt))[q]? = some v)
    (ho : ops[i]? = some ⟨some d, .load t x, ty, Zc, af, g⟩) (hg : Zj ops E g = true) (hd : Nat.ble (d + 1) C.n = true)
    (hx : ev E x = some (.pointer (some (ea base (p.toNat * s + q))))) (hT : Yz C.P t = true)
    (kk : TQ C ops Q l ((d, v) :: E) H) : TQ C ops Q (i :: l) E H :=
  TQ.load ho hg hd hx hT (fun w hi => by
    have hqs : q < s := by rw [← hr.ro.wide (xs.getD p.toNat dflt)]; exact (List.getElem?_eq_some_iff.1 hv).1
    have := (hr.ro.monoM hr.far hi).at dflt (o := p.toNat) (c := q) (Uk hp) hqs
    exact this.trans hv) kk
theorem Z86 {t T' : TypeId} {x : Operand} {b : Nat} {k : IntKind} {p : Int} {xs : List Int} {j : List Value} {fr : Nat × Nat} (hp : inb p xs.length) (q0_ : ops[i]? = some ⟨some d, .load t x, ty, Zc, af, g⟩ ∧ Zj ops E g = true ∧ Nat.ble (d + 1) C.n = true ∧ ev E x = some (.pointer (some ⟨b, p.toNat, none⟩))) (hT : Yz C.P t = true) (hm : (some b, Obj.cells (arr (intC k) xs j).toArray T' fr) ∈ H)
    (kk : TQ C ops Q l ((d, .int k (xs.getD p.toNat 0)) :: E) H) : TQ C ops Q (i :: l) E H := have ⟨ho, hg, hd, hx⟩ := q0_; TQ.ldI ho hg hd hx hT hm (Uk hp) kk
theorem Jl {t t2 : TypeId} {x y : Operand} {p q : Int} (h : i64ok (p + q)) (q0_ : ops[i]? = some ⟨some d, .binOp .add t x y t2, ty, Zc, af, g⟩ ∧ Zj ops E g = true ∧ Nat.ble (d + 1) C.n = true ∧ ev E x = some (.int .i64 p) ∧ ev E y = some (.int .i64 q))
    (kk : TQ C ops Q l ((d, .int .i64 (p + q)) :: E) H) : TQ C ops Q (i :: l) E H := have ⟨ho, hg, hd, hx, hy⟩ := q0_; TQ.add ho hg hd hx hy h.1 h.2 kk
theorem TQ.ldHB {t : TypeId} {x : Operand} {b o : Nat} {cs : List Value} {v : Value} (hc : HB C.w0 C.M b cs) (q0_ : ops[i]? = some ⟨some d, .load t x, ty, Zc, af, g⟩ ∧ Zj ops E g = true ∧ Nat.ble (d + 1) C.n = true ∧ ev E x = some (.pointer (some ⟨b, o, none⟩)) ∧ cs[o]? = some v) (hT : Yz C.P t = true)
    (kk : TQ C ops Q l ((d, v) :: E) H) : TQ C ops Q (i :: l) E H := have ⟨ho, hg, hd, hx, hv⟩ := q0_; TQ.load ho hg hd hx hT (fun w hi => hi.cell_old (hc.has o v hv) hc.far) kk
end rules
end Go.Acq
namespace Go.Acq
open Go Go.RowKit
section rules
variable {C : Cx} {ops : Array Oper} {Q : Exit → Act → World → Prop} {l : List Nat} {E : Env} {H R : Heap} {i d : Nat} {ty : TypeId} {Zc : String} {af : Array Edge} {g : Option (Nat × Bool)}
end rules
end Go.Acq
namespace Go.Acq
open Go Go.RowKit
section
variable {C : Cx} {Q : Exit → Act → World → Prop} {E : Env} {H : Heap} {c x y : Code}
end
end Go.Acq
namespace Go.Acq
open Go
end Go.Acq
namespace Go.Acq
open Go Go.RowKit
theorem Zl {α : Type} {x : α} {l : List α} : x ∈ x :: l := .head _
theorem Xj {α : Type} {a0 x : α} {l : List α} : x ∈ a0 :: x :: l := .tail _ Zl
theorem Wo {α : Type} {a0 a1 x : α} {l : List α} : x ∈ a0 :: a1 :: x :: l := .tail _ Xj
theorem Ke {α : Type} {a0 a1 a2 x : α} {l : List α} : x ∈ a0 :: a1 :: a2 :: x :: l := .tail _ Wo
theorem Vh {α : Type} {a0 a1 a2 a3 x : α} {l : List α} : x ∈ a0 :: a1 :: a2 :: a3 :: x :: l := .tail _ Ke
theorem mm5 {α : Type} {a0 a1 a2 a3 a4 x : α} {l : List α} : x ∈ a0 :: a1 :: a2 :: a3 :: a4 :: x :: l := .tail _ Vh
theorem mm6 {α : Type} {a0 a1 a2 a3 a4 a5 x : α} {l : List α} : x ∈ a0 :: a1 :: a2 :: a3 :: a4 :: a5 :: x :: l := .tail _ mm5
theorem mm7 {α : Type} {a0 a1 a2 a3 a4 a5 a6 x : α} {l : List α} : x ∈ a0 :: a1 :: a2 :: a3 :: a4 :: a5 :: a6 :: x :: l := .tail _ mm6
theorem mm8 {α : Type} {a0 a1 a2 a3 a4 a5 a6 a7 x : α} {l : List α} : x ∈ a0 :: a1 :: a2 :: a3 :: a4 :: a5 :: a6 :: a7 :: x :: l := .tail _ mm7
theorem mm9 {α : Type} {a0 a1 a2 a3 a4 a5 a6 a7 a8 x : α} {l : List α} : x ∈ a0 :: a1 :: a2 :: a3 :: a4 :: a5 :: a6 :: a7 :: a8 :: x :: l := .tail _ mm8
theorem mm10 {α : Type} {a0 a1 a2 a3 a4 a5 a6 a7 a8 a9 x : α} {l : List α} : x ∈ a0 :: a1 :: a2 :: a3 :: a4 :: a5 :: a6 :: a7 :: a8 :: a9 :: x :: l := .tail _ mm9
theorem mm11 {α : Type} {a0 a1 a2 a3 a4 a5 a6 a7 a8 a9 a10 x : α} {l : List α} : x ∈ a0 :: a1 :: a2 :: a3 :: a4 :: a5 :: a6 :: a7 :: a8 :: a9 :: a10 :: x :: l := .tail _ mm10
theorem mm12 {α : Type} {a0 a1 a2 a3 a4 a5 a6 a7 a8 a9 a10 a11 x : α} {l : List α} : x ∈ a0 :: a1 :: a2 :: a3 :: a4 :: a5 :: a6 :: a7 :: a8 :: a9 :: a10 :: a11 :: x :: l := .tail _ mm11
theorem mm13 {α : Type} {a0 a1 a2 a3 a4 a5 a6 a7 a8 a9 a10 a11 a12 x : α} {l : List α} : x ∈ a0 :: a1 :: a2 :: a3 :: a4 :: a5 :: a6 :: a7 :: a8 :: a9 :: a10 :: a11 :: a12 :: x :: l := .tail _ mm12
theorem Zf {x : Option Nat × Obj} {l : Heap} : Take x (x :: l) (l) := Take.head _ _
theorem Yh {a0 x : Option Nat × Obj} {l : Heap} : Take x (a0 :: x :: l) (a0 :: l) := Take.tail Zf
theorem Wa {a0 a1 x : Option Nat × Obj} {l : Heap} : Take x (a0 :: a1 :: x :: l) (a0 :: a1 :: l) := Take.tail Yh
theorem Km {a0 a1 a2 x : Option Nat × Obj} {l : Heap} : Take x (a0 :: a1 :: a2 :: x :: l) (a0 :: a1 :: a2 :: l) := Take.tail Wa
theorem tk4 {a0 a1 a2 a3 x : Option Nat × Obj} {l : Heap} : Take x (a0 :: a1 :: a2 :: a3 :: x :: l) (a0 :: a1 :: a2 :: a3 :: l) := Take.tail Km
theorem tk5 {a0 a1 a2 a3 a4 x : Option Nat × Obj} {l : Heap} : Take x (a0 :: a1 :: a2 :: a3 :: a4 :: x :: l) (a0 :: a1 :: a2 :: a3 :: a4 :: l) := Take.tail tk4
theorem tk6 {a0 a1 a2 a3 a4 a5 x : Option Nat × Obj} {l : Heap} : Take x (a0 :: a1 :: a2 :: a3 :: a4 :: a5 :: x :: l) (a0 :: a1 :: a2 :: a3 :: a4 :: a5 :: l) := Take.tail tk5
theorem tk7 {a0 a1 a2 a3 a4 a5 a6 x : Option Nat × Obj} {l : Heap} : Take x (a0 :: a1 :: a2 :: a3 :: a4 :: a5 :: a6 :: x :: l) (a0 :: a1 :: a2 :: a3 :: a4 :: a5 :: a6 :: l) := Take.tail tk6
theorem Gone.refl (R : Heap) : List.Perm R ([] ++ R) := List.Perm.refl R
section rules
variable {C : Cx} {ops : Array Oper} {Q : Exit → Act → World → Prop} {l : List Nat} {E : Env} {H R : Heap} {i d : Nat} {ty : TypeId} {Zc : String} {af : Array Edge} {g : Option (Nat × Bool)}
end rules
section rules
variable {C : Cx} {ops : Array Oper} {Q : Act → Prop} {l : List Nat} {E : Env} {H R : Heap} {i d : Nat} {ty : TypeId} {Zc : String} {af : Array Edge} {g : Option (Nat × Bool)}
end rules
section draw
variable {C : Cx} {ops : Array Oper} {Q : Exit → Act → World → Prop} {E : Env} {H : Heap}
theorem Rp {A B Tl : Heap} (X Hx : Heap) : List.Perm (X ++ ((A ++ Tl) ++ (B ++ Hx))) (X ++ (A ++ (B ++ (Tl ++ Hx)))) := by
 refine List.Perm.append_left X ?_
 rw [List.append_assoc]
 refine List.Perm.append_left A ?_
 rw [← List.append_assoc, ← List.append_assoc]
 exact List.Perm.append_right Hx List.perm_append_comm
theorem ObQ.tail {S : List Sp} {W : Env} {Hc : Heap} {i : Nat} (Tl : Heap) (h : ObQ C ops Q S W Hc i) : ObQ C ops Q S W (Hc ++ Tl) i := by
 intro vs es Es Hx hr a w hf hi
 refine Ny (l2 := []) (fun e a w hne hq => ?_) (fun a w hq => ?_) [i] a w (h vs es Es (Tl ++ Hx) hr a w hf (hi.perm (Rp [] Hx)))
 · cases e <;> first | exact absurd rfl hne | exact hq
 ·
  obtain ⟨v, e', h1, h2, h3⟩ := hq
  exact ⟨v, e', h1, h2, h3.perm (Rp e' Hx).symm⟩
theorem ObE.tail {S : List Sp} {HR : Nat → List Value → Heap → Prop} {hd : List (List Nat)} {W : Env} {Hc : Heap} {i : Nat} (Tl : Heap) (h : ObE C ops Q S HR hd W Hc i) : ObE C ops Q S HR hd W (Hc ++ Tl) i := by
 intro vs es Es Hx hb hr hh a w hf hi
 refine Ny (l2 := []) (fun e a w hne hq => ?_) (fun a w hq => ?_) [i] a w (h vs es Es (Tl ++ Hx) hb hr hh a w hf (hi.perm (Rp hb Hx)))
 · cases e <;> first | exact absurd rfl hne | exact hq
 ·
  obtain ⟨v, hb', h1, h2, h3, h4⟩ := hq
  exact ⟨v, hb', h1, h2, h3, h4.perm (Rp hb' Hx).symm⟩
theorem ObsG.tail {S : List Sp} {HR : Nat → List Value → Heap → Prop} {hd : List (List Nat)} {W : Env} {Hc : Heap} (Tl : Heap) : ∀ {l : List Nat}, ObsG C ops Q S HR hd W Hc l → ObsG C ops Q S HR hd W (Hc ++ Tl) l
 | [], _ => trivial
 | i :: l, ⟨h1, h2⟩ => by
  refine ⟨?_, ObsG.tail Tl h2⟩
  cases he : Yr S i with
  | true => rw [he] at h1; exact ObE.tail Tl h1
  | false => rw [he] at h1; exact ObQ.tail Tl h1
end draw
end Go.Acq
namespace Go.Acq
open Go Go.RowKit
section
variable {C : Cx} {ops : Array Oper} {Q : Exit → Act → World → Prop} {l : List Nat} {i d : Nat} {E : Env} {H : Heap} {ty : TypeId} {Zc : String} {af : Array Edge} {g : Option (Nat × Bool)}
end
end Go.Acq
namespace Go.Acq
open Go
structure Chan where
  cap : Nat
  buf : List Int
  deriving DecidableEq
instance : Inhabited Chan := ⟨⟨0, []⟩⟩
def Chan.put (x : Chan) (v : Int) : Chan := ⟨x.cap, x.buf ++ [v]⟩
def Chan.cut (x : Chan) : Chan := ⟨x.cap, x.buf.tail⟩
end Go.Acq
namespace Go.Acq
open Go Go.RowKit Go.Conc
def wpK (P : Program) (c : Code) (Q : Exit → Act → World → Prop) (a : Act) (w : World) : Prop :=
  ∀ (b : Frame) (k : List Item) (cs : List Frame), b.kind ≠ .early → b.roundOf = none →
    ∃ e a' w', Q e a' w' ∧ ArrivesIn (Machine.fenced P (FW none)) P (lone (b.atR a (.code c :: k)) cs w) b k cs e a' w'
def wpOK (P : Program) (ops : Array Oper) (Q : Exit → Act → World → Prop) (l : List Nat) (a : Act) (w : World) : Prop :=
  ∀ (b : Frame) (k : List Item) (cs : List Frame), b.kind ≠ .early → b.roundOf = none →
    ∃ e a' w', Q e a' w' ∧ ArrivesIn (Machine.fenced P (FW none)) P (lone (b.atR a (.inRegion ops l :: k)) cs w) b k cs e a' w'
def TK (C : Cx) (c : Code) (Q : Exit → Act → World → Prop) (E : Env) (H : Heap) : Prop := ∀ a w, Fits C.n C.D E a → Inv C.w0 C.M w H → wpK C.P c Q a w
def TOK (C : Cx) (ops : Array Oper) (Q : Exit → Act → World → Prop) (l : List Nat) (E : Env) (H : Heap) : Prop := ∀ a w, Fits C.n C.D E a → Inv C.w0 C.M w H → wpOK C.P ops Q l a w
theorem Jw (n : Nat) : (FW none).room n := fun d hd => by cases hd
section
variable {C : Cx} {Q : Exit → Act → World → Prop} {E E' : Env} {H H' R : Heap} {x y c : Code} {ops : Array Oper} {l : List Nat} {i d : Nat} {ty : TypeId} {Zc : String} {af : Array Edge} {g : Option (Nat × Bool)}
theorem TK.ofT (hρ : C.ρ = none) (h : T C c Q E H) : TK C c Q E H := fun a w hf hi b k cs _ hro => by
 have := h a w hf hi
 rw [hρ] at this
 exact this b k cs hro trivial (Jw _)
theorem TK.seq (h : TK C x (Exit.then (wpK C.P y Q) Q) E H) : TK C (.seq x y) Q E H := fun a w hf hi b k cs hk hro => by
 have h0 : (lone (b.atR a (.code (.seq x y) :: k)) cs w).fenced C.P (FW none) := fenced_calm trivial (Jw (cs.length + 1 + 0)) rfl
 obtain ⟨e, a₁, w₁, hq, harr⟩ := h a w hf hi b (.code y :: k) cs hk hro
 cases e with
 | normal =>
  obtain ⟨e₂, a₂, w₂, hq₂, harr₂⟩ := hq b k cs hk hro
  exact ⟨e₂, a₂, w₂, hq₂, .of_steps (.head h0 stepR_seq harr) harr₂⟩
 | exit id => exact ⟨_, a₁, w₁, hq, .of_steps (.one h0 stepR_seq) (.pass (x := .code y) rfl (fun _ _ => .inl (by simp)) harr)⟩
 | goto l => exact ⟨_, a₁, w₁, hq, .of_steps (.one h0 stepR_seq) (.pass (x := .code y) rfl (fun _ _ => .inl (by simp)) harr)⟩
 | ret => exact ⟨_, a₁, w₁, hq, .of_steps (.one h0 stepR_seq) (.pass (x := .code y) rfl (fun _ _ => .inl (by simp)) harr)⟩
 | panic ch => exact ⟨_, a₁, w₁, hq, .of_steps (.one h0 stepR_seq) (.pass (x := .code y) rfl (fun _ _ => .inl (by simp)) harr)⟩
 | outgrown => exact ⟨_, a₁, w₁, hq, .of_steps (.one h0 stepR_seq) (.pass (x := .code y) rfl (fun _ _ => .inl (by simp)) harr)⟩
theorem TK.block {id : Nat} (h : TK C c (Exit.inBlock id Q) E H) : TK C (.block id c) Q E H := fun a w hf hi b k cs hk hro => by
 have h0 : (lone (b.atR a (.code (.block id c) :: k)) cs w).fenced C.P (FW none) := fenced_calm trivial (Jw (cs.length + 1 + 0)) rfl
 obtain ⟨e, a₁, w₁, hq, harr⟩ := h a w hf hi b (.inBlock id :: k) cs hk hro
 cases e with
 | normal => exact ⟨.normal, a₁, w₁, hq, .head h0 stepR_block (StepsIn.trans harr (.one (fenced_calm trivial (Jw (cs.length + 1 + 0)) rfl) stepR_inBlock))⟩
 | exit id' =>
  by_cases hid : id' = id
  ·
   simp only [Exit.inBlock, hid, if_true] at hq
   exact ⟨.normal, a₁, w₁, hq, .head h0 stepR_block (harr.1 k (by simp [exitTo, hid]))⟩
  ·
   simp only [Exit.inBlock, hid, if_false] at hq
   have this : (id == id') = false := by simp; exact fun h => hid h.symm
   have hx : exitTo id' (.inBlock id :: k) = exitTo id' k := by simp [exitTo, this]
   exact ⟨.exit id', a₁, w₁, hq, fun k' hk => .head h0 stepR_block (harr.1 k' (by rw [hx]; exact hk)),
    fun hr' hk => let ⟨k₁, h1, h2⟩ := harr.2 hr' (by rw [hx]; exact hk); ⟨k₁, h1, .head h0 stepR_block h2⟩⟩
 | goto l =>
  have hx : gotoIn l (.inBlock id :: k) = gotoIn l k := by simp [gotoIn]
  exact ⟨_, a₁, w₁, hq, fun k' hk => .head h0 stepR_block (harr.1 k' (by rw [hx]; exact hk)),
   fun hr' hk => let ⟨k₁, h1, h2⟩ := harr.2 hr' (by rw [hx]; exact hk); ⟨k₁, h1, .head h0 stepR_block h2⟩⟩
 | ret => exact ⟨_, a₁, w₁, hq, .of_steps (.one h0 stepR_block) harr⟩
 | panic ch => exact ⟨_, a₁, w₁, hq, .of_steps (.one h0 stepR_block) harr⟩
 | outgrown => exact ⟨_, a₁, w₁, hq, .of_steps (.one h0 stepR_block) harr⟩
theorem Z79 {o : Operand} {t : Bool} (ho : ev E o = some (.bool t)) (h : TK C (if t then x else y) Q E H) : TK C (.cond o x y) Q E H := fun a w hf hi b k cs hk hro =>
 let ⟨e, a', w', q, r⟩ := h a w hf hi b k cs hk hro; ⟨e, a', w', q, .of_steps (.one (fenced_calm trivial (Jw (cs.length + 1 + 0)) rfl) (stepR_cond (hf.ev ho))) r⟩
theorem TK.condT {o : Operand} {b : Bool} (ho : ev E o = some (.bool b)) (hb : b = true) (ht : TK C x Q E H) : TK C (.cond o x y) Q E H := by subst hb; exact Z79 ho ht
theorem TK.condF {o : Operand} {b : Bool} (ho : ev E o = some (.bool b)) (hb : b = false) (ht : TK C y Q E H) : TK C (.cond o x y) Q E H := by subst hb; exact Z79 ho ht
theorem TK.condPT {o : Operand} {p : Prop} {hp : Decidable p} (ho : ev E o = some (.bool (@decide p hp))) (hb : p) (ht : TK C x Q E H) : TK C (.cond o x y) Q E H := TK.condT ho (decide_eq_true hb) ht
theorem TK.condPF {o : Operand} {p : Prop} {hp : Decidable p} (ho : ev E o = some (.bool (@decide p hp))) (hb : ¬p) (ht : TK C y Q E H) : TK C (.cond o x y) Q E H := TK.condF ho (decide_eq_false hb) ht
theorem TK.skip (hρ : C.ρ = none) (h : X C Q .normal E H) : TK C .skip Q E H := TK.ofT hρ (T.skip h)
theorem TK.ret (hρ : C.ρ = none) (h : X C Q .ret E H) : TK C .ret Q E H := TK.ofT hρ (T.ret h)
theorem TK.weak (h : TK C c Q E' H') (hE : ∀ t v, find E' t = some v → find E t = some v) (hH : Pick H' H) : TK C c Q E H := fun a w hf hi => h a w (hf.weak hE) (hi.pick hH)
theorem TK.trim (h : AllF E' E) (k : TK C c Q E' H) : TK C c Q E H := fun a w hf hi => k a w (hf.weak fun t v hv => h.sub t v hv) hi
theorem TK.region {id : Nat} {ll : List Nat} (hl : List.range ops.size = ll) (h : TOK C ops Q ll E H) : TK C (.region id ops false) Q E H := fun a w hf hi b k cs hk hro => by
 subst hl
 exact let ⟨e, a', w', q, r⟩ := h a w hf hi b k cs hk hro; ⟨e, a', w', q, .of_steps (.one (fenced_calm trivial (Jw (cs.length + 1 + 0)) rfl) stepR_region) r⟩
theorem wpQ_K {P : Program} {K : World → Prop} (l2 : List Nat) (l : List Nat) : ∀ a : Act, Kd P ops K (fun a => ∀ w, K w → wpOK P ops Q l2 a w) l a → ∀ w, K w → wpOK P ops Q (l ++ l2) a w := by
 induction l with
 | nil => exact fun a h w hw => h w hw
 | cons i rest ih =>
  intro a h w hw b k cs hk hro
  have hb : (FW none).fn b.fn := trivial
  have hr := Jw (cs.length + 1 + 0)
  simp only [Kd] at h
  show ∃ e a' w', Q e a' w' ∧ ArrivesIn (Machine.fenced P (FW none)) P (lone (b.atR a (.inRegion ops (i :: (rest ++ l2)) :: k)) cs w) b k cs e a' w'
  cases ho : ops[i]? with
  | none =>
   simp only [ho] at h
   obtain ⟨e, a', w', hq, harr⟩ := ih a h w hw b k cs hk hro
   have hs := stepR_op_skip (P := P) (b := b) (a := a) (k := k) (cs := cs) (w := w) (ops := ops) (i := i) (rest := rest ++ l2) (by simp [ho])
   simp only [ho, Option.bind_none, Act.put] at hs
   exact ⟨e, a', w', hq, .of_steps (.one (fenced_noOper hb hr ho) hs) harr⟩
  | some o =>
   simp only [ho] at h
   obtain ⟨hnd, hns, h⟩ := h
   have h0 : (lone (b.atR a (.inRegion ops (i :: (rest ++ l2)) :: k)) cs w).fenced P (FW none) := fenced_oper hb hr ho (fun _ _ => trivial)
   by_cases hx : Region.wanted o (yielded ops a.tmps) = true
   ·
    rw [if_pos hx] at h
    obtain ⟨v, h1, h2⟩ := h
    have h1 := h1 w hw
    generalize he : (execOp a.eval o).run P w = z at h1
    unfold Nh at h1
    split at h1
    ·
     obtain ⟨rfl, rfl⟩ := h1
     obtain ⟨e, a', w', hq, harr⟩ := ih _ h2 _ hw b k cs hk hro
     refine ⟨e, a', w', hq, .of_steps (.one h0 ?_) harr⟩
     rw [Frame.atR_of_none hro, Frame.atR_of_none hro]
     exact step_solo_go rfl (stepG_value ho hx hk he)
    ·
     obtain ⟨rfl, h1⟩ := h1
     rename_i f args w0
     obtain ⟨e, w'', fr, ⟨rfl, hw''⟩, hsteps, hfn, hleave⟩ := ((callsIn_FW (ρ := none) (n := 0)).2 h1).2 (b.atR a (.inRegion ops (i :: (rest ++ l2)) :: k) :: cs) (Jw _)
     have henter : step P (lone (b.atR a (.inRegion ops (i :: (rest ++ l2)) :: k)) cs w0) = .next (lone (Frame.enter P f args .normal) (b.atR a (.inRegion ops (i :: (rest ++ l2)) :: k) :: cs) w0) :=
      step_lone_go (by rw [stepGR_op ho hx, Oper.semAt_eq _ _ _ hnd]; simp [stepG.apply, he, Frame.atR])
     have hl : (lone fr (b.atR a (.inRegion ops (i :: (rest ++ l2)) :: k) :: cs) w'').fenced P (FW none) := fenced_leaving (n := 0) trivial (Jw _) hleave
     obtain ⟨e, a', w₃, hq, harr⟩ := ih _ h2 _ hw'' b k cs hk hro
     refine ⟨e, a', w₃, hq, .of_steps (.head h0 henter (StepsIn.trans hsteps (.one hl ?_))) harr⟩
     have hfin : (b.atR a (.inRegion ops (i :: (rest ++ l2)) :: k)).finish v = b.atR (a.put o.dst v) (.inRegion ops (rest ++ l2) :: k) := by rw [Frame.finish_atR, ho]; rfl
     rw [← hfin]; exact step_leave_returned hleave
    · exact h1.elim
   ·
    rw [if_neg hx] at h
    obtain ⟨e, a', w', hq, harr⟩ := ih _ h w hw b k cs hk hro
    have hs := stepR_op_skip (P := P) (b := b) (a := a) (k := k) (cs := cs) (w := w) (ops := ops) (i := i) (rest := rest ++ l2) (by simp [ho]; simpa using hx)
    simp only [ho, Option.bind_some] at hs
    exact ⟨e, a', w', hq, .of_steps (.one h0 hs) harr⟩
theorem TOK.pre (l1 l2 : List Nat) {l : List Nat} (hl : l1 ++ l2 = l) (h : TQ C ops (fun a => ∀ w, Inv C.w0 C.M w H → wpOK C.P ops Q l2 a w) l1 E H) : TOK C ops Q l E H := fun a w hf hi => by
 subst hl
 exact wpQ_K l2 l1 a (h a hf) w hi
end
end Go.Acq
namespace Go.Acq
open Go Go.RowKit
section rules
variable {C : Cx} {ops : Array Oper} {Q : Exit → Act → World → Prop} {l : List Nat} {E : Env} {H R : Heap} {i d : Nat} {ty : TypeId} {Zc : String} {af : Array Edge} {g : Option (Nat × Bool)}
end rules
end Go.Acq
namespace Go.Acq
open Go Go.RowKit
section
variable {α : Type} {w0 w : World} {M M' : List Nat} {f : α → List Value} {s n c : Nat} {base : Option Addr} {xs ys : List α} {ob : Option Nat} {j : List Value} {H Hm R : Heap} {T' : TypeId} {fr : Nat × Nat}
def Seen (w0 : World) (M : List Nat) (f : α → List Value) (s : Nat) (base : Option Addr) (n c : Nat) (xs ys : List α) (ob : Option Nat) : Prop :=
  (base = sb ob ∧ ys = xs ∧ xs.length = n ∧ n ≤ c ∧ (ob = none → c = 0)) ∨ RS w0 M f s base n c xs
theorem Seen.own (hn : xs.length = n) (hc : n ≤ c) (hz : ob = none → c = 0) : Seen w0 M f s (sb ob) n c xs xs ob := .inl ⟨rfl, rfl, hn, hc, hz⟩
theorem Seen.ro (h : RS w0 M f s base n c xs) : Seen w0 M f s base n c xs [] none := .inr h
theorem Seen.len (h : Seen w0 M f s base n c xs ys ob) : xs.length = n := h.elim (fun h => h.2.2.1) (fun h => h.len)
theorem Seen.cap (h : Seen w0 M f s base n c xs ys ob) : n ≤ c := h.elim (fun h => h.2.2.2.1) (fun h => h.cap)
theorem Seen.nil (h : Seen w0 M f s base n c xs ys ob) (hb : base = none) : n = 0 := by
 rcases h with ⟨h1, h2, h3, h4, h5⟩ | h
 ·
  cases ob with
  | none => have := h5 rfl; omega
  | some b => rw [h1] at hb; cases hb
 · exact h.ro.nil hb
theorem Seen.rs (h : Seen w0 M f s base n c xs ys ob) (hf : ∀ x, (f x).length = s) (hi : Inv w0 M w H) (hm : (ob, Obj.cells (arr f ys j).toArray T' fr) ∈ H) : RS w [] f s base n c xs := by
 rcases h with ⟨rfl, rfl, h3, h4, h5⟩ | h
 · exact hi.rs hf hm h3 h4 h5
 · exact h.mono hi
theorem Seen.rsM (h : Seen w0 M f s base n c xs ys ob) (hf : ∀ x, (f x).length = s) (hs : 0 < s) (hi : Inv w0 M w H) (hp : List.Perm H (Hm ++ R)) (hM : Hm.filterMap (·.1) = M') (hm : (ob, Obj.cells (arr f ys j).toArray T' fr) ∈ R) : RS w M' f s base n c xs := by
 rcases h with ⟨rfl, rfl, h3, h4, h5⟩ | h
 · exact hi.rsM hf hp hM hm h3 h4 h5
 · exact h.monoM hs hi hp hM
end
section rules
variable {C : Cx} {ops : Array Oper} {Q : Exit → Act → World → Prop} {l : List Nat} {E : Env} {H R : Heap} {i d : Nat} {ty : TypeId} {Zc : String} {af : Array Edge} {g : Option (Nat × Bool)}
theorem X.obQ2 {S : List Sp} {W Es B B' : Env} {Hc Hx : Heap} {v v0 : Value} {e' De : Heap} {vl : List Value} {H' : Heap} (hs : Yf ops i = some d) (hr : Vz S i vl v e') (hH : Pick (e' ++ (Hc ++ (De ++ Hx))) H') (hB : B = B') :
    X C (fun e a w => match e with
      | .normal => ∃ v e', Vz S i vl v e' ∧ Fits C.n C.D (Kh (Yf ops i) v (B ++ (W ++ Es))) a ∧ Inv C.w0 C.M w (e' ++ (Hc ++ (De ++ Hx)))
      | e => Q e a w) .normal ((d, v) :: (d, v0) :: (B' ++ (W ++ Es))) H' := by
  subst hB
  exact fun _ _ hf hi => ⟨v, e', hr, by
    rw [hs]
    exact hf.weak (fun t u h => by
      have h : find ((d, v) :: (B ++ (W ++ Es))) t = some u := h
      rw [Wx] at h ⊢
      split
      · rename_i e; rw [if_pos e] at h; exact h
      · rename_i e; rw [if_neg e] at h; rw [Wx, if_neg e]; exact h), hi.pick hH⟩
end rules
end Go.Acq
namespace Go.Acq
end Go.Acq
namespace Go.Acq
open Go Go.RowKit
section
variable {α : Type} {q : IntKind} {f : α → Value} {k : Int × Int} {z v : α}
end
section
variable {P : Program} {w : World} {kt i : TypeId} {q : IntKind}
end
section rules
variable {C : Cx} {ops : Array Oper} {Q : Exit → Act → World → Prop} {l : List Nat} {E : Env} {H R : Heap} {i d : Nat} {ty : TypeId} {Zc : String} {af : Array Edge} {g : Option (Nat × Bool)}
variable {α : Type} {q : IntKind} {f : α → Value}
end rules
end Go.Acq
namespace Go.Acq
open Go
end Go.Acq
namespace Go.Acq
open Go Go.RowKit
section rules
variable {C : Cx} {ops : Array Oper} {Q : Exit → Act → World → Prop} {l : List Nat} {E : Env} {H R : Heap} {i d : Nat} {ty : TypeId} {Zc : String} {af : Array Edge} {g : Option (Nat × Bool)}
end rules
end Go.Acq
namespace Go.Acq
open Go Go.RowKit
def Kept (ob obK ob' : Option Nat) : Prop := obK = ob ∨ (obK = none ∧ ob' = ob)
section rules
variable {C : Cx} {ops : Array Oper} {Q : Exit → Act → World → Prop} {l : List Nat} {E : Env} {H R : Heap} {i d : Nat} {ty : TypeId} {Zc : String} {af : Array Edge} {g : Option (Nat × Bool)}
theorem Kept.rs {α : Type} {w0 w : World} {M : List Nat} {f : α → List Value} {s n c n2 c2 : Nat} {ob obK ob' : Option Nat} {xs ys : List α} {j j' : List Value} {T T' : TypeId} {fr fr' : Nat × Nat} (h : Kept ob obK ob') (hi : Inv w0 M w H) (hf : ∀ x, (f x).length = s)
    (hm2 : (ob', Obj.cells (arr f (xs ++ ys) j').toArray T' fr') ∈ H) (hmK : (obK, Obj.cells (arr f xs j).toArray T fr) ∈ H) (hn2 : (xs ++ ys).length = n2) (hc2 : n2 ≤ c2) (h02 : ob' = none → c2 = 0) (hn : xs.length = n) (hc : n ≤ c) (h0 : ob = none → c = 0) : RS w [] f s (sb ob) n c xs := by
  rcases h with rfl | ⟨rfl, rfl⟩
  · exact hi.rs hf hmK hn hc h0
  · have h1 := hi.rs hf hm2 hn2 hc2 h02
    have h2 := h1.take (p := (n : Int)) ⟨Int.natCast_nonneg n, by rw [List.length_append]; omega⟩
    rw [Int.toNat_natCast, List.take_left' hn] at h2
    exact ⟨h2.ro, fun _ _ _ => by simp, hc⟩
end rules
end Go.Acq
namespace Go.Acq
open Go Go.RowKit
section
variable {C : Cx} {ops : Array Oper} {Q : Exit → Act → World → Prop} {E : Env} {H : Heap}
def ObsG2 (C : Cx) (ops : Array Oper) (Q : Exit → Act → World → Prop) (S : List Sp) (HR : Nat → List Value → Heap → Prop) (hd : List (List Nat)) (W : Env) (Hc : Heap) : List Nat → Prop
  | [] => True
  | i :: l => (cond (Yr S i) (ObE2 C ops Q S HR hd W Hc i) (ObQ C ops Q S W Hc i)) ∧ ObsG2 C ops Q S HR hd W Hc l
theorem ObsG2.get {S : List Sp} {HR : Nat → List Value → Heap → Prop} {hd : List (List Nat)} {W : Env} {Hc : Heap} : ∀ {l : List Nat}, ObsG2 C ops Q S HR hd W Hc l → ∀ i, i ∈ l → (cond (Yr S i) (ObE2 C ops Q S HR hd W Hc i) (ObQ C ops Q S W Hc i))
 | [], _, i, h => by cases h
 | j :: l, ⟨h1, h2⟩, i, h => by
  rcases List.mem_cons.1 h with rfl | h
  · exact h1
  · exact ObsG2.get h2 i h
theorem Z64 {S : List Sp} {HR : Nat → List Value → Heap → Prop} {hd : List (List Nat)} {W : Env} {Hc : Heap} : ∀ {l : List Nat}, ObsG2 C ops Q S HR hd W Hc l → ObsG3 C ops Q S HR hd [] W Hc l
 | [], _ => trivial
 | _ :: _, ⟨h1, h2⟩ => ⟨h1, Z64 h2⟩
theorem T.drawG2 {id : Nat} (S : List Sp) (HR : Nat → List Value → Heap → Prop) (hd : List (List Nat)) (hb0 Hc : Heap)
    (hm : C.P.follows .mixedOrders = true) (hb : Ky ops = true) (ht : Gw ops S.length = true) (hgood : Lv ops S hd = true) (hms : Nat.ble S.length ops.size = true)
    (hn : Ja (Va ops (List.range S.length)) = true) (h0 : HR 0 [] hb0) (hH : Pick (hb0 ++ Hc) H)
    (obs : ObsG2 C ops Q S HR hd (wo (Va ops (List.range S.length)) E) Hc (List.range S.length))
    (k : ∀ (vs : Nat → Value) (es : Nat → Heap) (hb : Heap), Ko S vs es (List.range S.length) → HR ((List.range S.length).filter (Yr S)).length ((hd.getD ((List.range S.length).filter (Yr S)).length []).map vs) hb →
      TO C ops Q (List.range' S.length (ops.size - S.length)) (Wh ops vs (List.range S.length) ++ wo (Va ops (List.range S.length)) E) (hb ++ (Hc ++ Xs es ((List.range S.length).filter fun j => !Jb S j)))) :
    T C (.region id ops true) Q E H := Z7t S HR hd [] hb0 Hc hm hb ht hgood hms hn rfl trivial h0 hH (Z64 obs) k
theorem Z74 {id : Nat} (S : List Sp) (sl : List Nat) (m : Nat) (HR : Nat → List Value → Heap → Prop) (hd : List (List Nat)) (hb0 Hc : Heap)
    (hm : C.P.follows .mixedOrders = true) (hsm : S.length = m) (hsl : Va ops (List.range m) = sl) (hb : Ky ops = true) (ht : Gw ops m = true) (hgood : Lv ops S hd = true) (hms : Nat.ble m ops.size = true)
    (hn : Ja sl = true) (h0 : HR 0 [] hb0) (hH : Pick (hb0 ++ Hc) H)
    (obs : ObsG2 C ops Q S HR hd (wo sl E) Hc (List.range m))
    (k : ∀ (vs : Nat → Value) (es : Nat → Heap) (hb : Heap), Ko S vs es (List.range m) → HR ((List.range m).filter (Yr S)).length ((hd.getD ((List.range m).filter (Yr S)).length []).map vs) hb →
      TO C ops Q (List.range' m (ops.size - m)) (Wh ops vs (List.range m) ++ wo sl E) (hb ++ (Hc ++ Xs es ((List.range m).filter fun j => !Jb S j)))) :
    T C (.region id ops true) Q E H := by
  subst hsm; subst hsl
  exact T.drawG2 S HR hd hb0 Hc hm hb ht hgood hms hn h0 hH obs k
theorem X.obEt {S : List Sp} {HR : Nat → List Value → Heap → Prop} {W Es B B' : Env} {Hc Hx : Heap} {i k d : Nat} {v : Value} {vl : List Value} {F : Value → List Value} {De hb' e' H' : Heap} (hs : Yf ops i = some d) (hr : Vz S i vl v e') (hh : HR k (F v) hb')
    (hH : Pick (hb' ++ (Hc ++ (e' ++ (De ++ Hx)))) H') (hB : B = B') :
    X C (fun e a w => match e with
      | .normal => ∃ v hb' e', Vz S i vl v e' ∧ HR k (F v) hb' ∧ Fits C.n C.D (Kh (Yf ops i) v (B ++ (W ++ Es))) a ∧ Inv C.w0 C.M w (hb' ++ (Hc ++ (e' ++ (De ++ Hx))))
      | e => Q e a w) .normal ((d, v) :: (B' ++ (W ++ Es))) H' := by
  subst hB
  exact fun _ _ hf hi => ⟨v, hb', e', hr, hh, by rw [hs]; exact hf, hi.pick hH⟩
end
end Go.Acq
namespace Go.Acq
open Go Go.RowKit
structure Qu {α : Type} (ob : Option Nat) (base : Option Addr) (n c : Nat) (xs ys : List α) (N C : Nat) : Prop where
  ex : ∃ o, o + n = N ∧ o + c = C ∧ xs = ys.drop o ∧ (0 < c → base = (sb ob).map (·.add o))
section
variable {α : Type} {ob : Option Nat} {base : Option Addr} {n c N C : Nat} {xs ys : List α} {w w0 : World} {M M' : List Nat} {H Hm R : Heap} {f : α → List Value} {j : List Value} {T' : TypeId} {fr : Nat × Nat}
theorem Qu.len (h : Qu ob base n c xs ys N C) (hn : ys.length = N) : xs.length = n := by
 obtain ⟨o, h1, _, rfl, _⟩ := h.ex
 rw [List.length_drop]; omega
theorem Qu.le (h : Qu ob base n c xs ys N C) (hc : N ≤ C) : n ≤ c := by
 obtain ⟨o, h1, h2, _, _⟩ := h.ex
 omega
theorem Zba (ob : Option Nat) : (sb ob).map (·.add 0) = sb ob := by cases ob <;> rfl
theorem Qu.self (ob : Option Nat) (ys : List α) (N C : Nat) : Qu ob (sb ob) N C ys ys N C := ⟨0, by omega, by omega, rfl, fun _ => (Zba ob).symm⟩
theorem Qu.drop (h : Qu ob base n c xs ys N C) {p : Int} (hp : 0 ≤ p ∧ p ≤ (xs.length : Int)) (hn : ys.length = N) (hc : N ≤ C) : Qu ob (Uo base p.toNat c 1) (n - p.toNat) (c - p.toNat) (xs.drop p.toNat) ys N C := by
 have hl := h.len hn
 have hle := h.le hc
 obtain ⟨o, h1, h2, rfl, h4⟩ := h.ex
 refine ⟨o + p.toNat, by omega, by omega, by rw [List.drop_drop], fun h5 => ?_⟩
 unfold Uo
 rw [if_neg (by omega), h4 (by omega)]
 cases ob with
 | none => rfl
 | some b => simp [Addr.add_lit]
theorem Qu.nil (h : Qu ob base n c xs ys N C) (hc : N ≤ C) (hz : ob = none → C = 0) : base = none → n = 0 := by
 intro hb
 have hle := h.le hc
 obtain ⟨o, h1, h2, rfl, h4⟩ := h.ex
 rcases Nat.eq_zero_or_pos c with h0 | h0
 · omega
 ·
  have := h4 h0
  rw [hb] at this
  cases ob with
  | none => have := hz rfl; omega
  | some b => cases this
theorem Qu.rsM (h : Qu ob base n c xs ys N C) (hi : Inv w0 M w H) (hf : ∀ x, (f x).length = 1) (hp : List.Perm H (Hm ++ R)) (hM : Hm.filterMap (·.1) = M') (hm : (ob, Obj.cells (arr f ys j).toArray T' fr) ∈ R) (hn : ys.length = N) (hc : N ≤ C) (hz : ob = none → C = 0) : RS w M' f 1 base n c xs := by
 have hl := h.len hn
 have hle := h.le hc
 have h9 := h.nil hc hz
 have hr := hi.rsM hf hp hM hm hn hc hz
 obtain ⟨o, h1, h2, rfl, h4⟩ := h.ex
 rcases Nat.eq_zero_or_pos c with h0 | h0
 ·
  have hn0 : n = 0 := by omega
  subst hn0
  have hx : ys.drop o = [] := List.eq_nil_of_length_eq_zero hl
  rw [hx]
  exact ⟨⟨rfl, fun _ => rfl, hf, fun o c h => by simp at h⟩, fun _ _ h => by omega, by omega⟩
 ·
  have h5 := hr.drop (p := (o : Int)) ⟨Int.natCast_nonneg o, by omega⟩
  rw [Int.toNat_natCast] at h5
  unfold Uo at h5
  rw [if_neg (by omega), Nat.mul_one, ← h4 h0, show N - o = n by omega, show C - o = c by omega] at h5
  exact h5
theorem Qu.rs (h : Qu ob base n c xs ys N C) (hi : Inv w0 M w H) (hf : ∀ x, (f x).length = 1) (hm : (ob, Obj.cells (arr f ys j).toArray T' fr) ∈ H) (hn : ys.length = N) (hc : N ≤ C) (hz : ob = none → C = 0) : RS w [] f 1 base n c xs :=
 h.rsM hi hf (Hm := []) (R := H) (List.Perm.refl _) rfl hm hn hc hz
end
section quiet
variable {C : Cx} {ops : Array Oper} {Q : Act → Prop} {l : List Nat} {E : Env} {H R : Heap} {i d : Nat} {ty : TypeId} {Zc : String} {af : Array Edge} {g : Option (Nat × Bool)}
end quiet
section rules
variable {C : Cx} {ops : Array Oper} {Q : Exit → Act → World → Prop} {l : List Nat} {E : Env} {H R : Heap} {i d : Nat} {ty : TypeId} {Zc : String} {af : Array Edge} {g : Option (Nat × Bool)}
end rules
end Go.Acq
namespace Go.Acq
open Go Go.RowKit Go.Proofs Go.Shelf
section
variable {P : Program} {ρ : Ren} {w w0 : World} {M : List Nat} {H R : Heap} {b : Nat} {T : TypeId} {cs : Array Value}
theorem Inv.setCells (P : Program) (h : Inv w0 M w H) (ht : Take (some b, .cells cs T (0, 0)) H R) {o : Nat} {vs : List Value} (hfit : o + vs.length ≤ cs.size) (h1 : ∀ u, u ∈ vs → u.oneCell' = true) :
    Inv w0 M (w.setCells b o vs) ((some b, .cells (cs.toList.take o ++ vs ++ cs.toList.drop (o + vs.length)).toArray T (0, 0)) :: R) := by
  rw [Z75 (P := P) (h.own _ _ ht.mem) hfit h1]
  exact h.setRow ht
end
end Go.Acq
namespace Go.Acq
open Go Go.RowKit
section
variable {C : Cx} {ops : Array Oper} {Q : Exit → Act → World → Prop} {E : Env} {H : Heap}
end
end Go.Acq
namespace Go.Acq
open Go Go.RowKit
structure RowB where
  ob : Option Nat
  xs : List Int
  n : Nat
  c : Nat
  j : List Value
instance : Inhabited RowB := ⟨⟨none, [], 0, 0, []⟩⟩
def RowB.ok (r : RowB) : Prop := r.xs.length = r.n ∧ r.n ≤ r.c ∧ r.j.length = (r.c - r.n) * 1 ∧ (r.ob = none → r.c = 0)
def RowB.sm (r : RowB) : SM := (sb r.ob, r.n, r.c)
structure Fam (L : List RowB) (xss : List (List Int)) (n : Nat) : Prop where
  xs : L.map RowB.xs = xss
  ok : ∀ r, r ∈ L → r.ok
  len : xss.length = n
theorem RowB.ok0 : (default : RowB).ok := ⟨rfl, Nat.le_refl _, rfl, fun _ => rfl⟩
theorem Fam.replicate (n : Nat) : Fam (List.replicate n default) (List.replicate n []) n :=
 ⟨by rw [List.map_replicate]; rfl, fun r hr => by rw [(List.mem_replicate.1 hr).2]; exact RowB.ok0, List.length_replicate⟩
theorem Fam.lenL {L : List RowB} {xss : List (List Int)} {n : Nat} (h : Fam L xss n) : L.length = n := by rw [← h.len, ← h.xs, List.length_map]
theorem Fam.set {L : List RowB} {xss : List (List Int)} {n p : Nat} {r : RowB} (h : Fam L xss n) (hr : r.ok) : Fam (L.set p r) (xss.set p r.xs) n :=
 ⟨by rw [List.map_set, h.xs], fun q hq => by
  rcases List.mem_or_eq_of_mem_set hq with h1 | rfl
  · exact h.ok q h1
  · exact hr, by rw [List.length_set]; exact h.len⟩
section
variable {C : Cx} {Q : Exit → Act → World → Prop} {E : Env} {H : Heap} {e : Exit} {code : Code}
end
section ends
variable {C : Cx} {E : Env} {H N : Heap}
end ends
section rules
variable {C : Cx} {ops : Array Oper} {Q : Exit → Act → World → Prop} {l : List Nat} {E : Env} {H R : Heap} {i d : Nat} {ty : TypeId} {Zc : String} {af : Array Edge} {g : Option (Nat × Bool)}
theorem Fam.inb {L : List RowB} {xss : List (List Int)} {n : Nat} {p : Int} (h : Fam L xss n) (hp : inb p xss.length) : inb p (L.map RowB.sm).length := by
 rw [List.length_map, h.lenL, ← h.len]; exact hp
end rules
section draw
variable {C : Cx} {ops : Array Oper} {Q : Exit → Act → World → Prop} {E : Env} {H : Heap}
theorem ObE2.tail {S : List Sp} {HR : Nat → List Value → Heap → Prop} {hd : List (List Nat)} {W : Env} {Hc : Heap} {i : Nat} (Tl : Heap) (h : ObE2 C ops Q S HR hd W Hc i) : ObE2 C ops Q S HR hd W (Hc ++ Tl) i := by
 intro vs es Es Hx hb hr hh a w hf hi
 refine Ny (l2 := []) (fun e a w hne hq => ?_) (fun a w hq => ?_) [i] a w (h vs es Es (Tl ++ Hx) hb hr hh a w hf (hi.perm (Rp hb Hx)))
 · cases e <;> first | exact absurd rfl hne | exact hq
 ·
  obtain ⟨v, hb', e', h1, h2, h3, h4⟩ := hq
  refine ⟨v, hb', e', h1, h2, h3, h4.perm ?_⟩
  have e1 : hb' ++ (Hc ++ (e' ++ (Xs es (Ym S i) ++ (Tl ++ Hx)))) = hb' ++ (Hc ++ ((e' ++ Xs es (Ym S i)) ++ (Tl ++ Hx))) := by simp only [List.append_assoc]
  have e2 : hb' ++ ((Hc ++ Tl) ++ (e' ++ (Xs es (Ym S i) ++ Hx))) = hb' ++ ((Hc ++ Tl) ++ ((e' ++ Xs es (Ym S i)) ++ Hx)) := by simp only [List.append_assoc]
  rw [e1, e2]
  exact (Rp hb' Hx).symm
theorem ObsG2.tail {S : List Sp} {HR : Nat → List Value → Heap → Prop} {hd : List (List Nat)} {W : Env} {Hc : Heap} (Tl : Heap) : ∀ {l : List Nat}, ObsG2 C ops Q S HR hd W Hc l → ObsG2 C ops Q S HR hd W (Hc ++ Tl) l
 | [], _ => trivial
 | i :: l, ⟨h1, h2⟩ => by
  refine ⟨?_, ObsG2.tail Tl h2⟩
  cases he : Yr S i with
  | true => rw [he] at h1; exact ObE2.tail Tl h1
  | false => rw [he] at h1; exact ObQ.tail Tl h1
end draw
section ends
variable {C : Cx} {E : Env} {H H' N : Heap}
end ends
end Go.Acq
namespace Go.Acq
open Go Go.RowKit
section rules
variable {C : Cx} {ops : Array Oper} {Q : Act → Prop} {l : List Nat} {E : Env} {H R : Heap} {i d : Nat} {ty : TypeId} {Zc : String} {af : Array Edge} {g : Option (Nat × Bool)}
end rules
section ends
variable {C : Cx} {E : Env} {H N : Heap}
end ends
end Go.Acq
namespace Go.Acq
open Go Go.RowKit
section rules
variable {C : Cx} {ops : Array Oper} {Q : Exit → Act → World → Prop} {l : List Nat} {E : Env} {H R : Heap} {i d : Nat} {ty : TypeId} {Zc : String} {af : Array Edge} {g : Option (Nat × Bool)}
def ExtF (P : Program) (f : FuncId) (e : Array Value → Sem Value) : Prop :=
  ∃ fn, P.funcs[f]? = some fn ∧ (fn.name == "runtime.NumGoroutine") = false ∧ fn.body.isNone = true ∧ Extern.findNext fn = none ∧ Extern.find fn = some e
variable {x y z : Operand} {f : FuncId} {at' : Array TypeId} {ob : Option Nat} {n c : Nat} {p v u : Int} {xs : List Int} {j : List Value} {T : TypeId}
end rules
section rules
variable {C : Cx} {ops : Array Oper} {Q : Exit → Act → World → Prop} {l : List Nat} {E : Env} {H R : Heap} {i d : Nat} {ty : TypeId} {Zc : String} {af : Array Edge} {g : Option (Nat × Bool)}
end rules
end Go.Acq
namespace Go.Acq
open Go Go.RowKit
section rules
variable {C : Cx} {ops : Array Oper} {Q : Exit → Act → World → Prop} {l : List Nat} {E : Env} {H R : Heap} {i d : Nat} {ty : TypeId} {Zc : String} {af : Array Edge} {g : Option (Nat × Bool)}
end rules
end Go.Acq
namespace Go.Acq
open Go Go.RowKit
def wpU (P : Program) (ops : Array Oper) (Qn : Act → Prop) : List Nat → Act → Prop
  | [], a => Qn a
  | i :: rest, a => match ops[i]? with
    | none => wpU P ops Qn rest a
    | some o => (∀ c, o.op ≠ .defer c) ∧ (∀ cs b, o.op ≠ .select cs b) ∧
        if Region.wanted o (yielded ops a.tmps) = true then ∃ v, (∀ w, (execOp a.eval o).run P w = .ok (.value v) w) ∧ wpU P ops Qn rest (a.put o.dst v)
        else wpU P ops Qn rest (a.put o.dst undef)
def TU (C : Cx) (ops : Array Oper) (Qn : Act → Prop) (l : List Nat) (E : Env) : Prop := ∀ a, Fits C.n C.D E a → wpU C.P ops Qn l a
section
variable {C : Cx} {ops : Array Oper} {Q : Exit → Act → World → Prop} {E : Env} {H : Heap}
def actL (ops : Array Oper) (vs : Nat → Value) : List Nat → Act → Act
  | [], a => a
  | i :: l, a => actL ops vs l (a.put (Yf ops i) (vs i))
def StepQ (P : Program) (ops : Array Oper) (K : World → Prop) (vs : Nat → Value) (i : Nat) (a : Act) : Prop :=
  ∃ o, ops[i]? = some o ∧ (∀ c, o.op ≠ .defer c) ∧ (∀ cs b, o.op ≠ .select cs b) ∧
    ((Region.wanted o (yielded ops a.tmps) = true ∧ ∀ w, K w → Nh P K w (vs i) ((execOp a.eval o).run P w)) ∨ (Region.wanted o (yielded ops a.tmps) = false ∧ vs i = undef))
def StepU (P : Program) (ops : Array Oper) (vs : Nat → Value) (i : Nat) (a : Act) : Prop :=
  ∃ o, ops[i]? = some o ∧ (∀ c, o.op ≠ .defer c) ∧ (∀ cs b, o.op ≠ .select cs b) ∧
    ((Region.wanted o (yielded ops a.tmps) = true ∧ ∀ w, (execOp a.eval o).run P w = .ok (.value (vs i)) w) ∨ (Region.wanted o (yielded ops a.tmps) = false ∧ vs i = undef))
theorem StepU.q {P : Program} {K : World → Prop} {vs : Nat → Value} {i : Nat} {a : Act} (h : StepU P ops vs i a) : StepQ P ops K vs i a := by
 obtain ⟨o, h1, h2, h3, h4⟩ := h
 refine ⟨o, h1, h2, h3, h4.imp (fun h => ⟨h.1, fun w _ => ?_⟩) id⟩
 rw [h.2 w]; exact ⟨rfl, rfl⟩
theorem Zbm {m : Nat} {vs : Nat → Value} {a0 : Act} : ∀ (l : List Nat) (done : Nat → Bool) (a : Act), (∀ i, i ∈ l → i < m ∧ ∃ d, Yf ops i = some d ∧ ∀ j, j < m → j ≠ i → Yf ops j ≠ some d) →
    DoneQ ops m vs a0 done a → DoneQ ops m vs a0 (fun q => done q || l.any (Nat.beq q)) (actL ops vs l a)
  | [], done, a, _, h => by simpa [actL] using h
  | i :: l, done, a, hu, h => by
    obtain ⟨hi, d, hd, hud⟩ := hu i (.head _)
    have h1 := h.put hi hd hud
    have h2 := Zbm l _ _ (fun j hj => hu j (.tail _ hj)) h1
    simp only [actL]
    rw [hd]
    have e : (fun q : Nat => (if q = i then true else done q) || l.any (Nat.beq q)) = fun q => done q || (i :: l).any (Nat.beq q) := by
      funext q
      by_cases c : q = i
      · subst c; simp
      · have : Nat.beq q i = false := by
          cases hb : Nat.beq q i with
          | true => exact absurd (Nat.eq_of_beq_eq_true hb) c
          | false => rfl
        simp [c, this]
    rw [← e]; exact h2
theorem DoneQ.congr {m : Nat} {vs vs' : Nat → Value} {a0 a : Act} {da : Nat → Bool} (h : DoneQ ops m vs a0 da a) (he : ∀ j, j < m → da j = true → vs j = vs' j) : DoneQ ops m vs' a0 da a :=
 ⟨h.size, h.defers, fun j d hj hd hs hl => by rw [← he j hj hd]; exact h.has j d hj hd hs hl, h.old⟩
theorem DoneQ.cut {m c : Nat} {vs : Nat → Value} {a0 a : Act} {done : Nat → Bool} (h : DoneQ ops m vs a0 done a) (hc : Yf ops c = none) : DoneQ ops m vs a0 (fun q => if q = c then true else done q) a :=
 ⟨h.size, h.defers, fun j d hj hd hs hl => h.has j d hj (by
  have : j ≠ c := by rintro rfl; rw [hc] at hs; cases hs
  simpa [this] using hd) hs hl, fun t ht => h.old t fun j hj hd => ht j hj (by
  by_cases e : j = c <;> simp [e, hd])⟩
theorem TU.tail {l : List Nat} {H0 : Heap} (hH : H0 = H) (h : TO C ops Q l E H) : TU C ops (fun a => ∀ w, Inv C.w0 C.M w H0 → wpOpsIn (FW C.ρ) 0 C.P ops Q l a w) [] E := fun a hf w hi => h a w hf (hH ▸ hi)
variable {Qn : Act → Prop} {l : List Nat} {i d : Nat} {ty : TypeId} {Zc : String} {af : Array Edge} {g : Option (Nat × Bool)}
theorem TU.val {op : Op} {v : Value} (ho : ops[i]? = some ⟨some d, op, ty, Zc, af, g⟩) (hg : Zj ops E g = true) (hd : Nat.ble (d + 1) C.n = true) (hnd : ∀ c, op ≠ .defer c)
    (hr : ∀ a w, Fits C.n C.D E a → (execOp a.eval ⟨some d, op, ty, Zc, af, g⟩).run C.P w = .ok (.value v) w)
    (k : TU C ops Qn l ((d, v) :: E)) (hns : ∀ cs b, op ≠ .select cs b := by simp) : TU C ops Qn (i :: l) E := by
  intro a hf
  simp only [wpU, ho]
  refine ⟨hnd, hns, ?_⟩
  rw [if_pos (Z3n hf hg)]
  exact ⟨v, fun w => hr a w hf, k _ (hf.put hd v)⟩
theorem TU.move {x : Operand} {v : Value} (ho : ops[i]? = some ⟨some d, .move x, ty, Zc, af, g⟩) (hg : Zj ops E g = true) (hd : Nat.ble (d + 1) C.n = true) (hx : ev E x = some v)
    (kk : TU C ops Qn l ((d, v) :: E)) : TU C ops Qn (i :: l) E := TU.val ho hg hd (by simp) (fun a w hf => by simp [execOp, hf.ev hx]) kk
theorem TU.fieldAddr {s : TypeId} {x : Operand} {f o b p : Nat} (ho : ops[i]? = some ⟨some d, .fieldAddr s x f, ty, Zc, af, g⟩) (hg : Zj ops E g = true) (hd : Nat.ble (d + 1) C.n = true)
    (hx : ev E x = some (.pointer (some ⟨b, p, none⟩))) (hT : Vt C.P s f = some o) (kk : TU C ops Qn l ((d, .pointer (some ⟨b, p + o, none⟩)) :: E)) : TU C ops Qn (i :: l) E :=
  TU.val ho hg hd (by simp) (fun a w hf => by simp [execOp, hf.ev hx, Z53 hT]) kk
theorem TU.fieldAddr0 {s : TypeId} {x : Operand} {f o b : Nat} (ho : ops[i]? = some ⟨some d, .fieldAddr s x f, ty, Zc, af, g⟩) (hg : Zj ops E g = true) (hd : Nat.ble (d + 1) C.n = true)
    (hx : ev E x = some (.pointer (some ⟨b, 0, none⟩))) (hT : Vt C.P s f = some o) (kk : TU C ops Qn l ((d, .pointer (some ⟨b, o, none⟩)) :: E)) : TU C ops Qn (i :: l) E :=
  TU.fieldAddr ho hg hd hx hT (by rw [Nat.zero_add]; exact kk)
variable {Q : Exit → Act → World → Prop}
end
end Go.Acq
namespace Go.Acq
open Go Go.RowKit
section rules
variable {C : Cx} {ops : Array Oper} {Q : Exit → Act → World → Prop} {l : List Nat} {E : Env} {H R : Heap} {i d : Nat} {ty : TypeId} {Zc : String} {af : Array Edge} {g : Option (Nat × Bool)}
end rules
section control
variable {C : Cx} {Q : Exit → Act → World → Prop} {E : Env} {H : Heap}
def AQX (n : Nat) (w0 : World) (M : List Nat) (B : Env → Heap → Prop) : Exit → Act → World → Prop := fun e a w => e = .normal ∧ ∃ E1 H1, Fits n [] E1 a ∧ Inv w0 M w H1 ∧ B E1 H1
theorem Z62 {ρ : Option Nat} {P : Program} {n : Nat} {w0 : World} {M : List Nat} {B : Env → Heap → Prop} (E1 : Env) (H1 : Heap) (hE : AllF E1 E) (hH : Pick H1 H) (hB : B E1 H1) : X ⟨P, ρ, n, [], w0, M⟩ (AQX n w0 M B) .normal E H :=
 fun _ _ hf hi => ⟨rfl, E1, H1, hf.weak hE.sub, hi.pick hH, hB⟩
end control
end Go.Acq
namespace Go.Acq
open Go Go.RowKit
section
variable {C : Cx} {Q : Exit → Act → World → Prop} {E : Env} {H : Heap} {c x y : Code}
end
end Go.Acq
namespace Go.Acq
open Go Go.RowKit
abbrev Str := List UInt8
def bs (l : Str) : ByteArray := ⟨l.toArray⟩
def Wj (x : Str) : List Value := [.string (bs x)]
def ub (l : Str) : List Int := l.map fun b => (b.toNat : Int)
def bu (l : List Int) : Str := l.map fun n => UInt8.ofNat n.toNat
abbrev slok (n : Nat) : Prop := n ≤ 9223372036854775807
theorem Xk (x : Str) : (bs x).size = x.length := by simp [bs, ByteArray.size]
theorem Vy (x : Str) : (bs x).data.toList = x := by simp [bs]
theorem bs_of (s : ByteArray) : bs s.data.toList = s := by cases s; simp [bs]
theorem bs_app (x y : Str) : bs x ++ bs y = bs (x ++ y) := by
 apply ByteArray.ext
 simp [bs]
theorem bs_get (x : Str) (i : Nat) : (bs x)[i]? = x[i]? := by
 show (if h : i < (bs x).size then some (bs x)[i] else none) = _
 by_cases h : i < x.length
 ·
  rw [dif_pos (by rw [Xk]; exact h), List.getElem?_eq_getElem h]
  simp [bs, ByteArray.getElem_eq_getElem_data]
 · rw [dif_neg (by rw [Xk]; exact h), List.getElem?_eq_none (by omega)]
theorem Z6r (x : Str) (l h : Nat) : (bs x).extract l h = bs ((x.take h).drop l) := by
 apply ByteArray.ext
 apply Array.ext'
 simp [bs, ByteArray.data_extract, List.drop_take]
theorem bu_ub (x : Str) : bu (ub x) = x := by
 unfold bu ub
 rw [List.map_map]
 conv => rhs; rw [← List.map_id x]
 apply List.map_congr_left
 intro b _
 simp
theorem Jd (x : Str) : (ub x).length = x.length := List.length_map ..
def Gl (P : Program) (t : TypeId) : Bool :=
  match P.underlying t with
  | some .string => true
  | _ => false
theorem Z1m {P : Program} {t : TypeId} (h : Gl P t = true) : P.underlying t = some .string := by
 unfold Gl at h
 split at h
 · assumption
 · cases h
theorem Z94 (x y : Str) : ((bs x).toList == (bs y).toList) = decide (x = y) := by
 have h : ∀ z : Str, (bs z).toList = z := fun z => by rw [ByteArray.toList_eq, Vy]
 rw [h, h]
 by_cases e : x = y
 · subst e; simp
 · rw [decide_eq_false e]; simpa using e
section rules
variable {C : Cx} {ops : Array Oper} {Q : Exit → Act → World → Prop} {l : List Nat} {E : Env} {H R : Heap} {i d : Nat} {ty : TypeId} {Zc : String} {af : Array Edge} {g : Option (Nat × Bool)}
theorem Kt {t t2 : TypeId} {x y : Operand} {p q : Str} (h : slok (p ++ q).length) (q0_ : ops[i]? = some ⟨some d, .binOp .add t x y t2, ty, Zc, af, g⟩ ∧ Zj ops E g = true ∧ Nat.ble (d + 1) C.n = true ∧ ev E x = some (.string (bs p)) ∧ ev E y = some (.string (bs q))) (kk : TO C ops Q l ((d, .string (bs (p ++ q))) :: E) H) : TO C ops Q (i :: l) E H := have ⟨ho, hg, hd, hx, hy⟩ := q0_;
  Xm ho hg hd (by simp) (fun a w hf _ => by
    have h1 : ¬ ((((bs p).size + (bs q).size : Nat) : Int) > IntKind.i64.max) := by
      rw [Xk, Xk]; unfold slok at h; rw [List.length_append] at h
      show ¬ ((_ : Int) > 9223372036854775807)
      omega
    simp only [execOp, hf.ev hx, hf.ev hy, eqGuard_at_string, binOp, Op.stringOp, if_neg h1, bs_app]
    simp) kk
theorem Z3y {t t2 : TypeId} {x y : Operand} {p q : Str} (q0_ : ops[i]? = some ⟨some d, .binOp .eql t x y t2, ty, Zc, af, g⟩ ∧ Zj ops E g = true ∧ Nat.ble (d + 1) C.n = true ∧ ev E x = some (.string (bs p)) ∧ ev E y = some (.string (bs q))) (kk : TO C ops Q l ((d, .bool (decide (p = q))) :: E) H) : TO C ops Q (i :: l) E H := have ⟨ho, hg, hd, hx, hy⟩ := q0_;
  Xm ho hg hd (by simp) (fun a w hf _ => by
    simp only [execOp, hf.ev hx, hf.ev hy, eqGuard_at_string, binOp, Op.stringOp, Z94]
    simp) kk
theorem Rq {t t2 : TypeId} {x y : Operand} {p q : Str} (q0_ : ops[i]? = some ⟨some d, .binOp .neq t x y t2, ty, Zc, af, g⟩ ∧ Zj ops E g = true ∧ Nat.ble (d + 1) C.n = true ∧ ev E x = some (.string (bs p)) ∧ ev E y = some (.string (bs q))) (kk : TO C ops Q l ((d, .bool (decide (¬p = q))) :: E) H) : TO C ops Q (i :: l) E H := have ⟨ho, hg, hd, hx, hy⟩ := q0_;
  Xm ho hg hd (by simp) (fun a w hf _ => by
    simp only [execOp, hf.ev hx, hf.ev hy, eqGuard_at_string, binOp, Op.stringOp, Z94]
    simp) kk
theorem Z4i {t : TypeId} {at' : Array TypeId} {x : Operand} {p : Str}
    (q0_ : ops[i]? = some ⟨some d, .call ⟨.builtin .len, #[x], at'⟩, ty, Zc, af, g⟩ ∧ Zj ops E g = true ∧ Nat.ble (d + 1) C.n = true ∧ at'[0]? = some t ∧ ev E x = some (.string (bs p))) (ht : Gl C.P t = true) (kk : TO C ops Q l ((d, .int .i64 (p.length : Int)) :: E) H) : TO C ops Q (i :: l) E H := have ⟨ho, hg, hd, hat, hx⟩ := q0_;
  Xm ho hg hd (by simp) (fun a w hf _ => by
    simp [execOp, resolve, invoke, builtin, hf.ev hx, Builtin.len_, hat, run_underlying (Z1m ht), goInt, Xk]) kk
theorem TO.ixT {t : TypeId} {x y : Operand} {p : Str} {k : IntKind} {q : Int} (h : inb q p.length) (q0_ : ops[i]? = some ⟨some d, .index t x y, ty, Zc, af, g⟩ ∧ Zj ops E g = true ∧ Nat.ble (d + 1) C.n = true ∧ ev E x = some (.string (bs p)) ∧ ev E y = some (.int k q)) (ht : Gl C.P t = true) (kk : TO C ops Q l ((d, .int .u8 ((p.getD q.toNat 0).toNat : Int)) :: E) H) : TO C ops Q (i :: l) E H := have ⟨ho, hg, hd, hx, hy⟩ := q0_;
  Xm ho hg hd (by simp) (fun a w hf _ => by
    have h2 := Uk h
    have h3 : p.getD q.toNat 0 = p[q.toNat] := by rw [List.getD_eq_getElem?_getD, List.getElem?_eq_getElem h2]; rfl
    simp [execOp, hf.ev hx, hf.ev hy, Instr.index, asIntOf, run_underlying (Z1m ht), h.1, bs_get, List.getElem?_eq_getElem h2, h3]) kk
theorem Z28 {α : Type} {f : α → List Value} {t : TypeId} {x : Operand} {base : Option Addr} {n c : Nat} {p : Int} {xs : List α} {v : Value} (dflt : α) (hr : RS C.w0 C.M f 1 base n c xs) (hp : inb p xs.length) (q0_ : ops[i]? = some ⟨some d, .load t x, ty, Zc, af, g⟩ ∧ Zj ops E g = true ∧ Nat.ble (d + 1) C.n = true ∧ ev E x = some (.pointer (some (ea base (p.toNat * 1)))) ∧ f (xs.getD p.toNat dflt) = [v]) (hT : Yz C.P t = true)
    (kk : TO C ops Q l ((d, v) :: E) H) : TO C ops Q (i :: l) E H := have ⟨ho, hg, hd, hx, hv⟩ := q0_; TO.ldFR (q := 0) dflt hr hp (by rw [hv]; rfl) ho hg hd hx hT kk
theorem Z90 {α : Type} {f : α → List Value} {t T' : TypeId} {x : Operand} {b : Nat} {p : Int} {xs : List α} {j : List Value} {fr : Nat × Nat} {v : Value} (dflt : α) (hf : ∀ x, (f x).length = 1) (hp : inb p xs.length) (q0_ : ops[i]? = some ⟨some d, .load t x, ty, Zc, af, g⟩ ∧ Zj ops E g = true ∧ Nat.ble (d + 1) C.n = true ∧ ev E x = some (.pointer (some ⟨b, p.toNat, none⟩)) ∧ f (xs.getD p.toNat dflt) = [v]) (hT : Yz C.P t = true) (hm : (some b, Obj.cells (arr f xs j).toArray T' fr) ∈ H)
    (kk : TO C ops Q l ((d, v) :: E) H) : TO C ops Q (i :: l) E H := have ⟨ho, hg, hd, hx, hv⟩ := q0_;
  TO.ldFO (q := 0) dflt hf hp (by rw [hv]; rfl) ho hg hd (by rw [hx]; simp) hT hm kk
theorem Z4r {α : Type} {f : α → List Value} {t T' : TypeId} {x : Operand} {ob : Option Nat} {n c : Nat} {p : Int} {xs : List α} {j : List Value} {fr : Nat × Nat} {v : Value} (dflt : α) (hf : ∀ x, (f x).length = 1) (h0 : ob = none → c = 0) (hc : n ≤ c) (hn : xs.length = n) (hp : inb p xs.length) (q0_ : ops[i]? = some ⟨some d, .load t x, ty, Zc, af, g⟩ ∧ Zj ops E g = true ∧ Nat.ble (d + 1) C.n = true ∧ ev E x = some (.pointer (some (ea (sb ob) (p.toNat * 1)))) ∧ f (xs.getD p.toNat dflt) = [v]) (hT : Yz C.P t = true) (hm : (ob, Obj.cells (arr f xs j).toArray T' fr) ∈ H)
    (kk : TO C ops Q l ((d, v) :: E) H) : TO C ops Q (i :: l) E H := have ⟨ho, hg, hd, hx, hv⟩ := q0_;
  TO.load ho hg hd hx hT (fun w hi => by
    have hR := hi.rs hf hm hn hc h0
    have := hR.ro.at dflt (o := p.toNat) (c := 0) (Uk hp) (by omega)
    rw [hv] at this
    simpa using this) kk
theorem Zd8 (w : World) (n c : Nat) (e : TypeId) : n ≤ grownCap w n c e := by unfold grownCap Question.cut; simp only; omega
theorem TO.toB {s t e : TypeId} {x : Operand} {p : Str} (q0_ : ops[i]? = some ⟨some d, .convert s t x, ty, Zc, af, g⟩ ∧ Zj ops E g = true ∧ Nat.ble (d + 1) C.n = true ∧ ev E x = some (.string (bs p))) (hs : Gl C.P s = true) (ht : Yv C.P t = some e) (he : C.P.underlying e = some (.int .u8))
    (kk : ∀ (b n c : Nat) (j : List Value) (fr : Nat × Nat), (ub p).length = n → n ≤ c → j.length = (c - n) * 1 →
      TO C ops Q l ((d, .slice (some ⟨b, 0, none⟩) n c) :: E) ((some b, .cells (arr (intC .u8) (ub p) j).toArray e fr) :: H)) : TO C ops Q (i :: l) E H := have ⟨ho, hg, hd, hx⟩ := q0_;
  Jy ho hg (by simp) fun a w hf hi => by
    have hr := run_bytes_of_string (P := C.P) w s t e (bs p) (Z1m hs) (Ud ht) he
    have h1 : (execOp a.eval ⟨some d, .convert s t x, ty, Zc, af, g⟩).run C.P w = .ok (.value (.slice (some ⟨w.heap.size, 0, none⟩) (bs p).size (grownCap w (bs p).size 0 e)))
        (w.drew.alloc (.cells (bytesRow (bs p) (grownCap w (bs p).size 0 e)) e ((bytesRow (bs p) (grownCap w (bs p).size 0 e)).size, (bytesRow (bs p) (grownCap w (bs p).size 0 e)).size + 1))) := by
      simp only [execOp, hf.ev hx]
      simp [hr]
    rw [h1]
    have hb : bytesRow (bs p) (grownCap w (bs p).size 0 e) = (arr (intC .u8) (ub p) (List.replicate (grownCap w (bs p).size 0 e - (bs p).size) (.int .u8 0))).toArray := by
      apply Array.ext'
      simp only [bytesRow, bs, arr, ub]
      simp [List.flatMap_map, intC, ← List.map_eq_flatMap]
    have hsz : (bs p).size = (ub p).length := by rw [Xk, Jd]
    rw [hb, hsz]
    exact kk _ _ _ _ _ rfl (Zd8 w _ _ _) (by simp) _ _ (hf.put hd _) (hi.drew.alloc _)
theorem Z5d : ∀ (l : List Int) (r : ByteArray), l.foldl (fun r n => r.push (UInt8.ofNat n.toNat)) r = r ++ bs (bu l)
 | [], r => by
  apply ByteArray.ext
  simp [bs, bu]
 | n :: l, r => by
  rw [List.foldl_cons, Z5d l]
  apply ByteArray.ext
  simp [bs, bu, ByteArray.push]
theorem Z15 {s t e : TypeId} {x : Operand} {base : Option Addr} {n c : Nat} {xs : List Int} (q0_ : ops[i]? = some ⟨some d, .convert s t x, ty, Zc, af, g⟩ ∧ Zj ops E g = true ∧ Nat.ble (d + 1) C.n = true ∧ ev E x = some (.slice base n c)) (hs : Yv C.P s = some e) (he : C.P.underlying e = some (.int .u8)) (ht : Gl C.P t = true)
    (hr : ∀ w, Inv C.w0 C.M w H → RS w [] (intC .u8) 1 base n c xs)
    (kk : TO C ops Q l ((d, .string (bs (bu xs))) :: E) H) : TO C ops Q (i :: l) E H := have ⟨ho, hg, hd, hx⟩ := q0_;
  Xm ho hg hd (by simp) (fun a w hf hi => by
    have hR := (hr w hi).ro
    have h1 := run_convert_bytes_string (P := C.P) w s t e base n c (Ud hs) he (Z1m ht)
    have h2 : (Conv.bytesToString (.slice base n c)).run C.P w = .ok (.string (bs (bu xs))) w := by
      cases base with
      | none =>
        have h3 := hR.nil rfl
        have h4 : xs = [] := List.eq_nil_of_length_eq_zero (by rw [hR.len]; exact h3)
        subst h4
        rfl
      | some ad =>
        have hl := run_loadCells_list (P := C.P) w ad (xs.map (Value.int .u8)) (fun q v hq => by
          have hql : q < xs.length := by have := (List.getElem?_eq_some_iff.1 hq).1; simpa using this
          have := hR.at 0 (o := q) (c := 0) hql (by omega)
          rw [List.getElem?_map, List.getElem?_eq_getElem hql] at hq
          simp only [ea, Option.getD_some, Nat.mul_one, Nat.add_zero] at this
          rw [this, List.getD_eq_getElem?_getD, List.getElem?_eq_getElem hql]
          simpa [intC] using hq)
        rw [List.length_map, hR.len] at hl
        rw [run_bytesToString w ad n c xs hl, Z5d]
        rfl
    simp only [execOp, hf.ev hx]
    simp [h1, h2]) kk
end rules
section quiet
variable {C : Cx} {ops : Array Oper} {Q : Act → Prop} {l : List Nat} {E : Env} {H R : Heap} {i d : Nat} {ty : TypeId} {Zc : String} {af : Array Edge} {g : Option (Nat × Bool)}
theorem Z6t {t t2 : TypeId} {x y : Operand} {p q : Str} (h : slok (p ++ q).length) (q0_ : ops[i]? = some ⟨some d, .binOp .add t x y t2, ty, Zc, af, g⟩ ∧ Zj ops E g = true ∧ Nat.ble (d + 1) C.n = true ∧ ev E x = some (.string (bs p)) ∧ ev E y = some (.string (bs q))) (kk : TQ C ops Q l ((d, .string (bs (p ++ q))) :: E) H) : TQ C ops Q (i :: l) E H := have ⟨ho, hg, hd, hx, hy⟩ := q0_;
  Ur ho hg hd (by simp) (fun a w hf _ => by
    have h1 : ¬ ((((bs p).size + (bs q).size : Nat) : Int) > IntKind.i64.max) := by
      rw [Xk, Xk]; unfold slok at h; rw [List.length_append] at h
      show ¬ ((_ : Int) > 9223372036854775807)
      omega
    simp only [execOp, hf.ev hx, hf.ev hy, eqGuard_at_string, binOp, Op.stringOp, if_neg h1, bs_app]
    simp) kk
theorem Z2t {α : Type} {f : α → List Value} {t : TypeId} {x : Operand} {base : Option Addr} {n c : Nat} {p : Int} {xs : List α} {v : Value} (dflt : α) (hr : RS C.w0 C.M f 1 base n c xs) (hp : inb p xs.length) (q0_ : ops[i]? = some ⟨some d, .load t x, ty, Zc, af, g⟩ ∧ Zj ops E g = true ∧ Nat.ble (d + 1) C.n = true ∧ ev E x = some (.pointer (some (ea base (p.toNat * 1)))) ∧ f (xs.getD p.toNat dflt) = [v]) (hT : Yz C.P t = true)
    (kk : TQ C ops Q l ((d, v) :: E) H) : TQ C ops Q (i :: l) E H := have ⟨ho, hg, hd, hx, hv⟩ := q0_; TQ.ldFR (q := 0) dflt hr hp (by rw [hv]; rfl) ho hg hd hx hT kk
theorem Z4m {s t e : TypeId} {x : Operand} {base : Option Addr} {n c : Nat} {xs : List Int} (q0_ : ops[i]? = some ⟨some d, .convert s t x, ty, Zc, af, g⟩ ∧ Zj ops E g = true ∧ Nat.ble (d + 1) C.n = true ∧ ev E x = some (.slice base n c)) (hs : Yv C.P s = some e) (he : C.P.underlying e = some (.int .u8)) (ht : Gl C.P t = true)
    (hr : ∀ w, Inv C.w0 C.M w H → RS w [] (intC .u8) 1 base n c xs)
    (kk : TQ C ops Q l ((d, .string (bs (bu xs))) :: E) H) : TQ C ops Q (i :: l) E H := have ⟨ho, hg, hd, hx⟩ := q0_;
  Ur ho hg hd (by simp) (fun a w hf hi => by
    have hR := (hr w hi).ro
    have h1 := run_convert_bytes_string (P := C.P) w s t e base n c (Ud hs) he (Z1m ht)
    have h2 : (Conv.bytesToString (.slice base n c)).run C.P w = .ok (.string (bs (bu xs))) w := by
      cases base with
      | none =>
        have h3 := hR.nil rfl
        have h4 : xs = [] := List.eq_nil_of_length_eq_zero (by rw [hR.len]; exact h3)
        subst h4
        rfl
      | some ad =>
        have hl := run_loadCells_list (P := C.P) w ad (xs.map (Value.int .u8)) (fun q v hq => by
          have hql : q < xs.length := by have := (List.getElem?_eq_some_iff.1 hq).1; simpa using this
          have := hR.at 0 (o := q) (c := 0) hql (by omega)
          rw [List.getElem?_map, List.getElem?_eq_getElem hql] at hq
          simp only [ea, Option.getD_some, Nat.mul_one, Nat.add_zero] at this
          rw [this, List.getD_eq_getElem?_getD, List.getElem?_eq_getElem hql]
          simpa [intC] using hq)
        rw [List.length_map, hR.len] at hl
        rw [run_bytesToString w ad n c xs hl, Z5d]
        rfl
    simp only [execOp, hf.ev hx]
    simp [h1, h2]) kk
end quiet
end Go.Acq
namespace Go.Acq
open Go Go.RowKit
def YCR {S X V : Type} (P : Program) (l : Nat) (en : World → List Nat → V → List Value → Prop) (y : S → V → Option (S ⊕ X)) (J : S ⊕ X → Heap → Prop) (EE : Heap → Prop) (w : World) (M : List Nat) : Prop :=
  ∀ (s : S) (v : V) (r : S ⊕ X), y s v = some r → ∀ (w' : World) (Hs HE : Heap) (vals : List Value), J (.inl s) Hs → EE HE → Inv w M w' (Hs ++ HE) → en w' (ids (Hs ++ HE)) v vals →
    YieldAt (FW none) 0 P l vals.toArray w' fun e w'' => ∃ Hs', J r Hs' ∧ e = .returned (.bool r.isLeft) ∧ Inv w' (ids (Hs ++ HE)) w'' (Hs' ++ HE)
theorem YCR.rebase {S X V : Type} {P : Program} {l : Nat} {en : World → List Nat → V → List Value → Prop} {y : S → V → Option (S ⊕ X)} {J : S ⊕ X → Heap → Prop} {EE : Heap → Prop} {w w2 : World} {M : List Nat} {H1 R : Heap} (h : YCR P l en y J EE w M) (hi : Inv w M w2 (H1 ++ R)) :
    YCR P l en y J EE w2 (ids H1) := fun s v r hy w' Hs HE vals hJ hE hi2 hen =>
  h s v r hy w' Hs HE vals hJ hE (hi.join (Hm := H1) (R := R) (M' := ids H1) (List.Perm.refl _) (fun m hm => hm) hi2).left hen
section rules
variable {C : Cx} {ops : Array Oper} {Q : Exit → Act → World → Prop} {l : List Nat} {E : Env} {H R : Heap} {i d : Nat} {ty : TypeId} {Zc : String} {af : Array Edge} {g : Option (Nat × Bool)}
theorem Z5x {S X V : Type} {lp : Nat} {en : World → List Nat → V → List Value → Prop} {y : S → V → Option (S ⊕ X)} {J : S ⊕ X → Heap → Prop} {EE : Heap → Prop} {x : Operand} {xs : Array Operand} {at' : Array TypeId} {t r : S ⊕ X} {v : V} {vals : List Value} {Ho HE Hs : Heap}
    (hY : YCR C.P lp en y J EE C.w0 C.M) (hr : Gj y t v = some r) (hJ : J t Hs) (hE : EE HE)
    (q0_ : ops[i]? = some ⟨some d, .call ⟨.value x, xs, at'⟩, ty, Zc, af, g⟩ ∧ Zj ops E g = true ∧ Nat.ble (d + 1) C.n = true ∧ ev E x = some (.func (.yield lp) #[] #[]) ∧ Vj E xs.toList = some vals) (hH : List.Perm H (HE ++ R)) (hR : R = Ho ++ Hs)
    (hen : ∀ w, Inv C.w0 C.M w H → List.Perm H ((Hs ++ HE) ++ Ho) → en w (ids (Hs ++ HE)) v vals)
    (kk : ∀ Hs', J r Hs' → TO C ops Q l ((d, .bool r.isLeft) :: E) (HE ++ (Ho ++ Hs'))) : TO C ops Q (i :: l) E H := by
  obtain ⟨ho, hg, hd, hx, hxs⟩ := q0_
  obtain ⟨s, rfl, hys⟩ := Ze8 hr
  refine Jy ho hg (by simp) fun a w hf hi => ?_
  subst hR
  have hpm : ∀ Hx : Heap, List.Perm (HE ++ (Ho ++ Hx)) ((Hx ++ HE) ++ Ho) := fun Hx => by
    rw [← List.append_assoc, List.append_assoc Hx]
    exact List.perm_append_comm
  have hi' := hi.perm (hH.trans (hpm Hs))
  obtain ⟨fn, tmps, assign, body, hrun, hround⟩ := hY s v r hys w Hs HE vals hJ hE hi'.left (hen w hi (hH.trans (hpm Hs)))
  have e1 : xs.map a.eval = vals.toArray := by apply Array.ext'; simpa using Js hf hxs
  have : (execOp a.eval ⟨some d, .call ⟨.value x, xs, at'⟩, ty, Zc, af, g⟩).run C.P w = .ok (.round lp fn tmps assign body) w := by
    simp [execOp, resolve, Deferred.ofValue, invoke, hf.ev hx, e1, hrun]
  rw [this]
  rw [Oper.uponIn_round]
  have hround' : RoundIn (FW C.ρ) (0 - 1) C.P lp fn tmps assign body w _ := hround
  refine ⟨by simp [FW], hround'.mono ?_⟩
  rintro e w' ⟨Hs', hJ', rfl, hi2⟩
  have hk := kk Hs' hJ'
  unfold TO at hk
  exact hk _ _ (hf.put hd _) (((hi'.join (List.Perm.refl _) (fun m hm => hm) hi2)).perm (hpm Hs').symm)
end rules
section control
variable {C : Cx} {Q : Exit → Act → World → Prop} {E : Env} {H : Heap}
theorem Z9n {S X V : Type} (hρ : C.ρ = none) {gop : Operand} {ps : Array Tmp} {assign body : Code} {f : FuncId} {fs cs : Array Value} (hF : Zz C.P f = true) (hg : ev E gop = some (.func (.func f) fs cs))
    (hps : ps.toList.all (fun p => Nat.ble (p + 1) C.n) = true) (en : World → List Nat → V → List Value → Prop) (hlen : ∀ w M v vals, en w M v vals → vals.length = ps.size)
    (y : S → V → Option (S ⊕ X)) (J : S ⊕ X → Heap → Prop) (EE : Heap → Prop) (EO : Heap → Prop) (jmp : X → Code) (s0 : S) (t : S ⊕ X) (Hs0 HE0 R : Heap) (hJ : J (.inl s0) Hs0) (hH : Pick ((Hs0 ++ HE0) ++ R) H)
    (it : ∀ (lp : Nat) (w : World) (J' : S ⊕ X → Heap → Prop) (H0 : Heap), J' (.inl s0) H0 → Inv w (ids (H0 ++ HE0)) w (H0 ++ HE0) → YCR C.P lp en y J' EE w (ids (H0 ++ HE0)) → ∀ lo, Inv C.w0 C.M w (((some lp, lo) :: (Hs0 ++ HE0)) ++ R) → H0 = (some lp, lo) :: Hs0 →
      Fnc C.P f (fs ++ #[.func (.yield lp) #[] #[]] ++ cs) w (ids (H0 ++ HE0)) (fun v N => v = .tuple #[] ∧ ∃ HE' Hs', N = HE' ++ Hs' ∧ J' t Hs' ∧ EO HE'))
    (round : ∀ (lp : Nat) (w' : World) (s : S) (v : V) (r : S ⊕ X) (Hs HE : Heap) (vals : List Value), y s v = some r → J (.inl s) Hs → EE HE → en w' (ids ((some lp, mkO) :: (Hs ++ HE))) v vals → Inv w' (ids (Hs ++ HE)) w' (Hs ++ HE) → Inv C.w0 C.M w' ((Hs ++ HE) ++ R) →
      T ⟨C.P, some lp, C.n, [], w', ids (Hs ++ HE)⟩ assign (AQX C.n w' (ids (Hs ++ HE)) fun E1 H1 => ∀ w2, Inv w2 (ids H1) w2 H1 → Inv C.w0 C.M w2 (H1 ++ R) → Inv w' (ids ((some lp, mkO) :: (Hs ++ HE))) w2 H1 → T ⟨C.P, some lp, C.n, [], w2, ids H1⟩ body (RQ (fun r Hq => ∃ Hq', Hq = Hq' ++ HE ∧ J r Hq') jmp r w2 (ids H1)) E1 H1) (putPs ps.toList vals E) (Hs ++ HE))
    (next : ∀ s, t = .inl s → ∀ rr Hs HE, J (.inl s) Hs → EO HE → Acq.X { C with D := mkD rr :: C.D } Q .normal E ((Hs ++ HE) ++ ((some rr, mkO) :: R)))
    (exit : ∀ x, t = .inr x → ∀ rr Hs HE, J (.inr x) Hs → EO HE → T { C with D := mkD rr :: C.D } (jmp x) Q E ((Hs ++ HE) ++ ((some rr, mkO) :: R))) :
    T C (.rangeFunc gop ps assign body) Q E H := by
  intro a w hf hi0
  have hi := hi0.pick hH
  refine wpIn_rangeFunc fun fn _ => ?_
  have hFW : (FW C.ρ).round = none := by rw [hρ]; rfl
  rw [hFW]
  obtain ⟨rr, hrr⟩ : ∃ rr, w.heap.size = rr := ⟨_, rfl⟩
  obtain ⟨wa, hwa⟩ : ∃ wa, w.alloc mkO = wa := ⟨_, rfl⟩
  obtain ⟨lp, hlp⟩ : ∃ lp, wa.heap.size = lp := ⟨_, rfl⟩
  obtain ⟨lo, hlo⟩ : ∃ lo, recO fn a.tmps ps assign body rr .ready none = lo := ⟨_, rfl⟩
  obtain ⟨wb, hwb⟩ : ∃ wb, wa.alloc lo = wb := ⟨_, rfl⟩
  have hia : Inv C.w0 C.M wa ((some rr, mkO) :: ((Hs0 ++ HE0) ++ R)) := by rw [← hwa, ← hrr]; exact hi.alloc mkO
  have hib : Inv C.w0 C.M wb ((some lp, lo) :: (some rr, mkO) :: ((Hs0 ++ HE0) ++ R)) := by rw [← hwb, ← hlp]; exact hia.alloc lo
  have hlp2 : w.heap.size + 1 = lp := by rw [← hlp, ← hwa]; exact (World.size_alloc ..).symm
  have hib' : Inv C.w0 C.M wb (((some lp, lo) :: (Hs0 ++ HE0)) ++ ((some rr, mkO) :: R)) := hib.perm (by
    rw [List.cons_append]
    exact List.Perm.cons _ List.perm_middle.symm)
  refine ⟨lp, [mkD rr], wb, { target := .fn (.func f) cs, args := fs.push (.func (.yield lp) #[] #[]) }, wb, f, fs ++ #[.func (.yield lp) #[] #[]] ++ cs, wb, ?_, ?_, fun _ _ => trivial, ?_, by simp [FW], ?_⟩
  · rw [run_enterLoop_outer, ← hwb, ← hlo, ← hwa, ← hlp2, ← hrr]
  · have h2 : a.eval gop = .func (.func f) fs cs := hf.ev hg
    have h3 : ∀ v, a.eval (.const v) = v := fun _ => rfl
    simp [resolve, Deferred.ofValue, h2, h3]
  · show (callFunc f (fs.push (.func (.yield lp) #[] #[]) ++ cs)).run C.P wb = _
    rw [Array.push_eq_append]
    exact Gs hF _ _
  · refine callsIn_FW.2 ?_
    have hlrec : ∀ {w' : World} {M'' : List Nat} {o : Obj} {Hs : Heap}, Inv wb M'' w' ((some lp, o) :: Hs) → w'.heap[lp]? = some o := fun h => h.own lp _ (.head _)
    have hcall := it lp wb (fun r Hx => ∃ Hs, Hx = (some lp, recO fn a.tmps ps assign body rr (match r with | .inl _ => LoopState.ready | .inr _ => LoopState.done) (match r with | .inl _ => none | .inr x => some (jmp x))) :: Hs ∧ J r Hs) ((some lp, lo) :: Hs0)
      ⟨Hs0, by rw [← hlo], hJ⟩ (hib'.left.self (Zr _) rfl) ?_ lo (hib'.pick (by
        refine Z0q (S := [(some rr, mkO)]) ?_
        rw [List.append_assoc]
        exact List.Perm.append_left _ (List.perm_append_singleton _ _).symm)) rfl
    · refine Calls.mono hcall ?_
      rintro e w3 ⟨v, N, ⟨rfl, HE3, Hq3, rfl, ⟨Hs3, rfl, hJ3⟩, hE3⟩, rfl, hi3⟩
      have hi3 := hi3.perm List.perm_append_comm
      have hj3 := hib'.join (M' := ids ((some lp, lo) :: (Hs0 ++ HE0))) (List.Perm.refl _) (fun m hm => hm) hi3
      have hl3 := hj3.own lp _ (.head _)
      have hput := hj3.put (recO fn a.tmps ps assign body rr .exhausted (match t with | .inl _ => none | .inr x => some (jmp x)))
      have hfa : Fits C.n (mkD rr :: C.D) E { a with defers := [mkD rr] ++ a.defers } := ⟨hf.size, by simp [hf.defers], hf.get⟩
      have hpk : Pick ((Hs3 ++ HE3) ++ ((some rr, mkO) :: R)) ((some lp, recO fn a.tmps ps assign body rr .exhausted (match t with | .inl _ => none | .inr x => some (jmp x))) :: ((Hs3 ++ HE3) ++ ((some rr, mkO) :: R))) := Pick.skip (Zr _)
      cases t with
      | inl s =>
        refine ⟨none, _, run_endLoop hl3 (by simp), ?_⟩
        exact next s rfl rr Hs3 HE3 hJ3 hE3 _ _ hfa (hput.pick hpk)
      | inr x =>
        refine ⟨some (jmp x), _, run_endLoop hl3 (by simp), ?_⟩
        exact exit x rfl rr Hs3 HE3 hJ3 hE3 _ _ hfa (hput.pick hpk)
    · rintro s v r hys w' Hx HE vals ⟨Hs1, rfl, hJs⟩ hE hi' hen
      obtain ⟨Hs, hHs⟩ : ∃ Hs, Hs1 ++ HE = Hs := ⟨_, rfl⟩
      have hi' : Inv wb (ids ((some lp, lo) :: (Hs0 ++ HE0))) w' ((some lp, recO fn a.tmps ps assign body rr .ready none) :: Hs) := by rw [← hHs]; exact hi'
      have hself0 : True := trivial
      have hlw := hlrec hi'
      have hout := hib'.join (M' := ids ((some lp, lo) :: (Hs0 ++ HE0))) (List.Perm.refl _) (fun m hm => hm) hi'
      have hself := hi'.self (Hm := Hs) (Pick.skip (Zr _)) rfl
      have houtH : Inv C.w0 C.M w' (Hs ++ R) := hout.pick (by
        refine Pick.skip ?_
        refine Z0q (S := [(some rr, mkO)]) ?_
        rw [List.append_assoc]
        exact List.Perm.append_left _ (List.perm_append_singleton _ _).symm)
      have hasg := round lp w' s v r Hs1 HE vals hys hJs hE hen (by rw [hHs]; exact hself) (by rw [hHs]; exact houtH)
      rw [hHs] at hasg
      refine ⟨_, _, _, _, run_yield hlw (by simp [hlen _ _ _ _ hen]), ?_⟩
      refine roundIn_of_wpIn trivial ?_
      have hf0 : Fits C.n [] E { tmps := a.tmps, defers := [] } := ⟨hf.size, rfl, hf.get⟩
      have hf1 := Z71 (vs := vals) hps hf0
      have hw0 := hasg _ w' hf1 hself
      have hrw : (ps.zip vals.toArray).foldl (fun tmps (t, a) => tmps.setIfInBounds t a) a.tmps = (ps.toList.zip vals).foldl (fun tmps (t, a) => tmps.setIfInBounds t a) a.tmps := by
        rw [← Array.foldl_toList]; simp
      rw [hrw]
      refine wpIn_mono (F := FW (some lp)) hw0 ?_
      rintro e a1 w1 ⟨rfl, E1, H1, hfa, hia1, hbody⟩
      have hall := (hi'.self (Zr _) rfl)
      have hall1 := hall.join (Hm := Hs) (R := [(some lp, recO fn a.tmps ps assign body rr .ready none)]) (M' := ids Hs) ((List.perm_append_singleton _ _).symm) (fun m hm => hm) hia1
      have hall1 := hall1.perm (List.perm_append_singleton _ _)
      have hl1 := hall1.own lp _ (.head _)
      refine ⟨_, run_beginRound hl1 rfl, ?_⟩
      have hb1 := hall1.put (recO fn a.tmps ps assign body rr .busy none)
      have hout1 := hout.join (M' := ids ((some lp, recO fn a.tmps ps assign body rr .ready none) :: Hs)) (List.Perm.refl _) (fun m hm => hm) hall1
      have hout2 := hout1.put (recO fn a.tmps ps assign body rr .busy none)
      have hs2 := hb1.self (Hm := H1) (Pick.skip (Zr _)) rfl
      have hwp := hbody _ hs2 (hout2.pick (by
        refine Pick.skip ?_
        refine Z0q (S := [(some rr, mkO)]) ?_
        rw [List.append_assoc]
        exact List.Perm.append_left _ (List.perm_append_singleton _ _).symm)) (hb1.pick (H' := H1) (Pick.skip (Zr _))) a1 _ hfa hs2
      refine wpIn_mono (F := FW (some lp)) hwp ?_
      intro e a3 w3 hq
      have fin : ∀ (Hs' : Heap), Inv (w1.putObj lp (recO fn a.tmps ps assign body rr .busy none)) (ids H1) w3 Hs' → w3.heap[lp]? = some (recO fn a.tmps ps assign body rr .busy none) ∧
          ∀ o, Inv w' (ids ((some lp, recO fn a.tmps ps assign body rr .ready none) :: Hs)) (w3.putObj lp o) ((some lp, o) :: Hs') := by
        intro Hs' h
        have h2 := hb1.join (Hm := H1) (R := [(some lp, recO fn a.tmps ps assign body rr .busy none)]) (M' := ids H1) ((List.perm_append_singleton _ _).symm) (fun m hm => hm) h
        have h2 := h2.perm (List.perm_append_singleton _ _)
        exact ⟨h2.own lp _ (.head _), fun o => h2.put o⟩
      cases e with
      | normal =>
        obtain ⟨s', Hs', rfl, hJ', hi3⟩ := hq
        obtain ⟨h3, h4⟩ := fin Hs' hi3
        obtain ⟨Hs4, rfl, hJ'⟩ := hJ'
        exact ⟨_, _, run_endRound none h3, _, ⟨Hs4, rfl, hJ'⟩, rfl, by have h5 := h4 (recO fn a.tmps ps assign body rr .ready none); rw [← hHs] at h5; exact h5⟩
      | ret =>
        obtain ⟨x, Hs', rfl, hj, hJ', hi3⟩ := hq
        obtain ⟨h3, h4⟩ := fin Hs' hi3
        obtain ⟨Hs4, rfl, hJ'⟩ := hJ'
        refine ⟨_, _, run_endRound (some .ret) h3, _, ⟨Hs4, rfl, hJ'⟩, rfl, ?_⟩
        simp only [hj]; have h5 := h4 (recO fn a.tmps ps assign body rr .done (some .ret)); rw [← hHs] at h5; exact h5
      | exit id =>
        obtain ⟨x, Hs', rfl, hj, hJ', hi3⟩ := hq
        obtain ⟨h3, h4⟩ := fin Hs' hi3
        obtain ⟨Hs4, rfl, hJ'⟩ := hJ'
        refine ⟨_, _, run_endRound (some (.exit id)) h3, _, ⟨Hs4, rfl, hJ'⟩, rfl, ?_⟩
        simp only [hj]; have h5 := h4 (recO fn a.tmps ps assign body rr .done (some (.exit id))); rw [← hHs] at h5; exact h5
      | goto _ => exact hq.elim
      | panic _ => exact hq.elim
      | outgrown => exact hq.elim
end control
end Go.Acq
namespace Go.Acq
open Go Go.RowKit
section control
variable {C : Cx} {Q : Exit → Act → World → Prop} {E : Env} {H H' : Heap}
theorem T.perm {c : Code} (hp : List.Perm H H') (k : T C c Q E H') : T C c Q E H := fun a w hf hi => k a w hf (hi.perm hp)
theorem X.perm {e : Exit} (hp : List.Perm H H') (k : Acq.X C Q e E H') : Acq.X C Q e E H := fun a w hf hi => k a w hf (hi.perm hp)
theorem RQ.turn {S X : Type} {J : S ⊕ X → Heap → Prop} {HE : Heap} {jmp : X → Code} {r : S ⊕ X} {w0 : World} {M : List Nat} {e : Exit} {a : Act} {w : World}
    (h : RQ (fun r Hq => ∃ Hq', Hq = HE ++ Hq' ∧ J r Hq') jmp r w0 M e a w) : RQ (fun r Hq => ∃ Hq', Hq = Hq' ++ HE ∧ J r Hq') jmp r w0 M e a w := by
  cases e with
  | normal => obtain ⟨s, _, h1, ⟨Hq, rfl, hJ⟩, hi⟩ := h; exact ⟨s, _, h1, ⟨Hq, rfl, hJ⟩, hi.perm List.perm_append_comm⟩
  | ret => obtain ⟨x, _, h1, h2, ⟨Hq, rfl, hJ⟩, hi⟩ := h; exact ⟨x, _, h1, h2, ⟨Hq, rfl, hJ⟩, hi.perm List.perm_append_comm⟩
  | exit id => obtain ⟨x, _, h1, h2, ⟨Hq, rfl, hJ⟩, hi⟩ := h; exact ⟨x, _, h1, h2, ⟨Hq, rfl, hJ⟩, hi.perm List.perm_append_comm⟩
  | goto _ => exact h.elim
  | panic _ => exact h.elim
  | outgrown => exact h.elim
theorem Z47 {S X V : Type} (hρ : C.ρ = none) {gop : Operand} {ps : Array Tmp} {assign body : Code} {f : FuncId} {fs cs : Array Value} (hF : Zz C.P f = true) (q0_ : ev E gop = some (.func (.func f) fs cs) ∧ ps.toList.all (fun p => Nat.ble (p + 1) C.n) = true) (en : World → List Nat → V → List Value → Prop) (hlen : ∀ w M v vals, en w M v vals → vals.length = ps.size)
    (y : S → V → Option (S ⊕ X)) (J : S ⊕ X → Heap → Prop) (EE EO : Heap → Prop) (jmp : X → Code) (s0 : S) (t : S ⊕ X) (Hs0 HE0 R : Heap) (hJ : J (.inl s0) Hs0) (hH : Pick ((HE0 ++ R) ++ Hs0) H)
    (it : ∀ (lp : Nat) (w : World) (J' : S ⊕ X → Heap → Prop) (H0 : Heap), J' (.inl s0) H0 → Inv w (ids (H0 ++ HE0)) w (H0 ++ HE0) → YCR C.P lp en y J' EE w (ids (H0 ++ HE0)) → ∀ lo, Inv C.w0 C.M w (((some lp, lo) :: (Hs0 ++ HE0)) ++ R) → H0 = (some lp, lo) :: Hs0 →
      Fnc C.P f (fs ++ #[.func (.yield lp) #[] #[]] ++ cs) w (ids (H0 ++ HE0)) (fun v N => v = .tuple #[] ∧ ∃ HE' Hs', N = HE' ++ Hs' ∧ J' t Hs' ∧ EO HE'))
    (round : ∀ (lp : Nat) (w' : World) (s : S) (v : V) (r : S ⊕ X) (Hs HE : Heap) (vals : List Value), y s v = some r → J (.inl s) Hs → EE HE → en w' (ids ((some lp, mkO) :: (Hs ++ HE))) v vals → Inv w' (ids (Hs ++ HE)) w' (Hs ++ HE) → Inv C.w0 C.M w' ((Hs ++ HE) ++ R) →
      T ⟨C.P, some lp, C.n, [], w', ids (Hs ++ HE)⟩ assign (AQX C.n w' (ids (Hs ++ HE)) fun E1 H1 => ∀ w2, Inv w2 (ids H1) w2 H1 → Inv C.w0 C.M w2 (H1 ++ R) → Inv w' (ids ((some lp, mkO) :: (Hs ++ HE))) w2 H1 → T ⟨C.P, some lp, C.n, [], w2, ids H1⟩ body (RQ (fun r Hq => ∃ Hq', Hq = HE ++ Hq' ∧ J r Hq') jmp r w2 (ids H1)) E1 H1) (putPs ps.toList vals E) (HE ++ Hs))
    (next : ∀ s, t = .inl s → ∀ rr Hs HE, J (.inl s) Hs → EO HE → Acq.X { C with D := mkD rr :: C.D } Q .normal E ((HE ++ ((some rr, mkO) :: R)) ++ Hs))
    (exit : ∀ x, t = .inr x → ∀ rr Hs HE, J (.inr x) Hs → EO HE → T { C with D := mkD rr :: C.D } (jmp x) Q E ((HE ++ ((some rr, mkO) :: R)) ++ Hs)) :
    T C (.rangeFunc gop ps assign body) Q E H := by
  obtain ⟨hg, hps⟩ := q0_
  have hpm : ∀ (Hs HE R : Heap), List.Perm ((Hs ++ HE) ++ R) ((HE ++ R) ++ Hs) := fun Hs HE R => by
    rw [List.append_assoc]; exact List.perm_append_comm
  refine Z9n hρ hF hg hps en hlen y J EE EO jmp s0 t Hs0 HE0 R hJ ?_ it ?_ ?_ ?_
  · obtain ⟨S', ns, hn, hS⟩ := hH
    exact ⟨S', ns, hn, hS.trans ((hpm Hs0 HE0 R).symm.append_right S')⟩
  · intro lp w' s v r Hs HE vals hy hJ' hE hen h1 h2
    refine T.perm List.perm_append_comm ?_
    have h := round lp w' s v r Hs HE vals hy hJ' hE hen h1 h2
    intro a w hf hi
    refine wpIn_mono (F := FW (some lp)) (h a w hf hi) ?_
    rintro e a1 w1 ⟨rfl, E1, H1, hf1, hi1, hB⟩
    refine ⟨rfl, E1, H1, hf1, hi1, fun w2 k1 k2 k3 => ?_⟩
    intro a2 w3 hf2 hi2
    exact wpIn_mono (F := FW (some lp)) (hB w2 k1 k2 k3 a2 w3 hf2 hi2) fun e a w hq => RQ.turn hq
  · intro s hs rr Hs HE hJ' hE
    exact Acq.X.perm (hpm Hs HE _) (next s hs rr Hs HE hJ' hE)
  · intro x hx rr Hs HE hJ' hE
    exact T.perm (hpm Hs HE _) (exit x hx rr Hs HE hJ' hE)
end control
end Go.Acq
namespace Go.Acq
open Go Go.Lib
theorem Z93 (x : Str) (i : Nat) (h : i < x.length) : (bs x).get! i = x[i] := by
 have h2 : i < (bs x).data.size := by simpa [bs] using h
 simp [ByteArray.get!, bs, h]
theorem Z2z (x : Str) (i : Nat) (c : UInt8) (h : x[i]? = some c) (ha : c.toNat < 128) : Utf8.decode (bs x) i = (c.toNat, 1) := by
 obtain ⟨h1, h2⟩ := List.getElem?_eq_some_iff.1 h
 unfold Utf8.decode
 simp only [Nat.add_zero, Z93 x i h1, h2]
 rw [if_pos ha]
theorem Z0k {l : Str} {i : Nat} {c : UInt8} (h : l[i]? = some c) : l.drop i = c :: l.drop (i + 1) := by
 obtain ⟨h1, h2⟩ := List.getElem?_eq_some_iff.1 h
 rw [← h2]; exact List.drop_eq_getElem_cons h1
theorem Z8l {l : Str} {i : Nat} {c : UInt8} (h : l[i]? = some c) : l.take (i + 1) = l.take i ++ [c] := by
 obtain ⟨h1, h2⟩ := List.getElem?_eq_some_iff.1 h
 rw [← h2]; exact List.take_succ_eq_append_getElem h1
theorem Z2q {l : Str} {i : Nat} (h : i < l.length) : ∃ c, l[i]? = some c := ⟨_, List.getElem?_eq_getElem h⟩
def Yw (p : Nat → Bool) : Str → Str → List Str
  | [], cur => if cur = [] then [] else [cur]
  | b :: l, cur => if p b.toNat then (if cur = [] then Yw p l [] else cur :: Yw p l []) else Yw p l (cur ++ [b])
def Na (l : Str) : Bool := l.all fun b => decide (b.toNat < 128)
theorem Z5c {p : Nat → Bool} {cur : Str} (h : cur ≠ []) : Yw p [] cur = [cur] := by rw [Yw, if_neg h]
theorem Rt {p : Nat → Bool} {b : UInt8} {l cur : Str} (hq : p b.toNat = true) (h : cur ≠ []) : Yw p (b :: l) cur = cur :: Yw p l [] := by rw [Yw, if_pos hq, if_neg h]
theorem Z0s {p : Nat → Bool} {b : UInt8} {l : Str} (hq : p b.toNat = true) : Yw p (b :: l) [] = Yw p l [] := by rw [Yw, if_pos hq, if_pos rfl]
theorem Z61 {p : Nat → Bool} {b : UInt8} {l cur : Str} (hq : ¬ p b.toNat = true) : Yw p (b :: l) cur = Yw p l (cur ++ [b]) := by rw [Yw, if_neg hq]
def Z1q (p : Nat → Bool) (l : Str) : List Str := if Na l then Yw p l [] else (goFieldsP p (bs l)).map fun b => b.data.toList
def anyT (p : Nat → Bool) (l : Str) : Bool := if Na l then l.any (fun b => p b.toNat) else decide (0 ≤ idxFunc p true (bs l))
theorem Z7j {l : Str} (h : Na l = true) {i : Nat} {c : UInt8} (hi : l[i]? = some c) : c.toNat < 128 := by
 have := List.all_eq_true.1 h c (List.mem_of_getElem? hi)
 simpa using this
theorem Z7w (p : Nat → Bool) (l : Str) (h : Na l = true) : ∀ (f Zc : Nat), l.length ≤ Zc + f → decide (0 ≤ idxFuncFrom p true (bs l) f Zc) = (l.drop Zc).any (fun b => p b.toNat)
 | 0, Zc, hf => by
  rw [List.drop_eq_nil_of_le (by omega)]; rfl
 | f + 1, Zc, hf => by
  by_cases hp : Zc < l.length
  ·
   obtain ⟨c, hc⟩ := Z2q hp
   rw [idxFuncFrom, if_pos (by rw [Xk]; exact hp), Z2z l Zc c hc (Z7j h hc), Z0k hc, List.any_cons]
   by_cases hq : p c.toNat = true
   · rw [if_pos hq, hq, Bool.true_or]; exact decide_eq_true (by omega)
   ·
    rw [if_neg hq, Bool.eq_false_iff.2 hq, Bool.false_or]
    exact Z7w p l h f (Zc + 1) (by omega)
  · rw [idxFuncFrom_end _ _ _ _ _ (by rw [Xk]; exact hp), List.drop_eq_nil_of_le (by omega)]; rfl
theorem Z82 (p : Nat → Bool) (l : Str) : decide (0 ≤ idxFunc p true (bs l)) = anyT p l := by
 unfold anyT
 by_cases h : Na l = true
 ·
  rw [if_pos h]
  have := Z7w p l h l.length 0 (by omega)
  unfold idxFunc
  rw [Xk, this, List.drop_zero]
 · rw [if_neg h]
def We (l : Str) (st : Option Nat) (Zc : Nat) : Str :=
  match st with
  | some a => (l.take Zc).drop a
  | none => []
def opn (st : Option Nat) (Zc : Nat) : Prop := ∀ a, st = some a → a < Zc
theorem Zbi (p : Nat → Bool) (l : Str) (h : Na l = true) : ∀ (f Zc : Nat) (st : Option Nat) (acc : List (Nat × Nat)), l.length ≤ Zc + f → Zc ≤ l.length → opn st Zc →
    (closeSpans (bs l) (spansFromP p (bs l) f Zc st acc)).map (fun x => (l.take x.2).drop x.1) = acc.map (fun x => (l.take x.2).drop x.1) ++ Yw p (l.drop Zc) (We l st Zc) := by
  have fin : ∀ (f Zc : Nat) (st : Option Nat) (acc : List (Nat × Nat)), Zc = l.length → opn st Zc →
      (closeSpans (bs l) (spansFromP p (bs l) f Zc st acc)).map (fun x => (l.take x.2).drop x.1) = acc.map (fun x => (l.take x.2).drop x.1) ++ Yw p (l.drop Zc) (We l st Zc) := by
    intro f Zc st acc hp ho
    subst hp
    rw [spansFromP_end _ _ _ _ _ _ (by rw [Xk]; omega), List.drop_eq_nil_of_le (Nat.le_refl _)]
    cases st with
    | none => simp [closeSpans, We, Yw]
    | some a =>
      have h1 : a < l.length := ho a rfl
      have h2 : We l (some a) l.length ≠ [] := by
        intro e
        have := congrArg List.length e
        unfold We at this
        simp only at this
        rw [List.length_drop, List.length_take] at this
        simp only [List.length_nil] at this
        omega
      rw [Z5c h2]
      simp only [closeSpans, We, Xk, List.map_append, List.map_cons, List.map_nil]
  intro f
  induction f with
  | zero => intro Zc st acc hf hp ho; exact fin 0 Zc st acc (by omega) ho
  | succ f ih =>
    intro Zc st acc hf hp ho
    by_cases hlt : Zc < l.length
    · obtain ⟨c, hc⟩ := Z2q hlt
      have hd := Z2z l Zc c hc (Z7j h hc)
      rw [Z0k hc]
      have hsz : Zc < (bs l).size := by rw [Xk]; exact hlt
      by_cases hq : p c.toNat = true
      · cases st with
        | none =>
          have e : spansFromP p (bs l) (f + 1) Zc none acc = spansFromP p (bs l) f (Zc + 1) none acc := by
            simp only [spansFromP, if_pos hsz, hd, if_pos hq]
          rw [e, ih (Zc + 1) none acc (by omega) (by omega) (fun a e => by cases e)]
          rw [show We l none Zc = [] from rfl, Z0s hq]; rfl
        | some a =>
          have h1 : a < Zc := ho a rfl
          have h2 : We l (some a) Zc ≠ [] := by
            intro e
            have := congrArg List.length e
            unfold We at this
            simp only at this
            rw [List.length_drop, List.length_take] at this
            simp only [List.length_nil] at this
            omega
          have e : spansFromP p (bs l) (f + 1) Zc (some a) acc = spansFromP p (bs l) f (Zc + 1) none (acc ++ [(a, Zc)]) := by
            simp only [spansFromP, if_pos hsz, hd, if_pos hq]
          rw [e, ih (Zc + 1) none (acc ++ [(a, Zc)]) (by omega) (by omega) (fun a e => by cases e)]
          rw [Rt hq h2]
          simp only [We, List.map_append, List.map_cons, List.map_nil, List.append_assoc, List.cons_append, List.nil_append]
      · cases st with
        | none =>
          have e : spansFromP p (bs l) (f + 1) Zc none acc = spansFromP p (bs l) f (Zc + 1) (some Zc) acc := by
            simp only [spansFromP, if_pos hsz, hd, if_neg hq]
          rw [e, ih (Zc + 1) (some Zc) acc (by omega) (by omega) (fun a e => by cases e; omega)]
          have : (l.take (Zc + 1)).drop Zc = [c] := by
            rw [Z8l hc, List.drop_append, List.drop_eq_nil_of_le (by rw [List.length_take]; omega), List.length_take, Nat.min_eq_left (Nat.le_of_lt hlt), Nat.sub_self]; rfl
          rw [Z61 hq]
          simp only [We, this, List.nil_append]
        | some a =>
          have h1 : a < Zc := ho a rfl
          have e : spansFromP p (bs l) (f + 1) Zc (some a) acc = spansFromP p (bs l) f (Zc + 1) (some a) acc := by
            simp only [spansFromP, if_pos hsz, hd, if_neg hq]
          rw [e, ih (Zc + 1) (some a) acc (by omega) (by omega) (fun b e => by cases e; omega)]
          have : (l.take (Zc + 1)).drop a = (l.take Zc).drop a ++ [c] := by
            rw [Z8l hc, List.drop_append_of_le_length (by rw [List.length_take]; omega)]
          rw [Z61 hq]
          simp only [We, this]
    · exact fin (f + 1) Zc st acc (by omega) ho
theorem Z8g (p : Nat → Bool) (l : Str) : goFieldsP p (bs l) = (Z1q p l).map bs := by
 unfold Z1q
 by_cases h : Na l = true
 ·
  rw [if_pos h]
  have h1 := Zbi p l h l.length 0 none [] (by omega) (by omega) (fun a e => by cases e)
  simp only [List.map_nil, List.nil_append, List.drop_zero] at h1
  have h2 : We l none 0 = [] := rfl
  rw [h2] at h1
  rw [← h1]
  unfold goFieldsP spansOfP
  rw [Xk, List.map_map]
  apply List.map_congr_left
  intro x _
  exact Z6r l x.1 x.2
 ·
  rw [if_neg h, List.map_map]
  conv => lhs; rw [← List.map_id (goFieldsP p (bs l))]
  apply List.map_congr_left
  intro b _
  exact (bs_of b).symm
def Wg : Nat → Nat → Str
  | 0, _ => []
  | f + 1, u => if u < 10 then [UInt8.ofNat (48 + u)] else Wg f (u / 10) ++ [UInt8.ofNat (48 + u % 10)]
def Yj (n : Int) : Str := if n < 0 then 45 :: Wg 20 n.natAbs else Wg 20 n.toNat
theorem Z5w : ∀ (f u : Nat), u < 10 ^ (f + 1) → decDigits u = Wg (f + 1) u
 | 0, u, h => by
  have h2 : u < 10 := by simpa using h
  rw [decDigits, Wg, dif_pos h2, if_pos h2]
 | f + 1, u, h => by
  rw [decDigits, Wg]
  by_cases hu : u < 10
  · rw [dif_pos hu, if_pos hu]
  · rw [dif_neg hu, if_neg hu, Z5w f (u / 10) (by rw [Nat.pow_succ] at h; omega)]
theorem Z6y {n : Int} (h : i64ok n) : itoa n = Yj n := by
 obtain ⟨h1, h2⟩ := h
 have e : (10 : Nat) ^ (19 + 1) = 100000000000000000000 := by decide
 unfold itoa Yj
 rw [Z5w 19 n.natAbs (by rw [e]; omega), Z5w 19 n.toNat (by rw [e]; omega)]
end Go.Acq
namespace Go.Acq
open Go Go.RowKit Go.Proofs Go.Shelf
structure GK (P : Program) (w : World) (M : List Nat) : Prop where
  pow : Lib.TabIs P w "internal/strconv.uint64pow10" .u64 Lib.pow10Tab
  syn : ∃ tp p, w.var? P "strconv.ErrSyntax" = some #[.iface tp p]
  ran : ∃ tp p, w.var? P "strconv.ErrRange" = some #[.iface tp p]
  mxl : ∃ m, w.var? P "internal/bytealg.MaxLen" = some #[.int .i64 m]
  low : ∀ n, n ∈ ["internal/strconv.uint64pow10", "strconv.ErrSyntax", "strconv.ErrRange", "internal/bytealg.MaxLen"] → ∀ g, P.globalNamed n = some g → g ∉ M
section
variable {P : Program} {w0 w : World} {M M' : List Nat} {H Hm R : Heap}
theorem Z34 {n : String} {cs : Array Value} (h : w0.var? P n = some cs) (hl : ∀ g, P.globalNamed n = some g → g ∉ M) (hi : Inv w0 M w H) : w.var? P n = some cs := by
 unfold World.var? at h ⊢
 cases hg : P.globalNamed n with
 | none => simp [hg] at h
 | some g =>
  simp only [hg, Option.bind_some] at h ⊢
  have hlt : g < w0.heap.size := by
   rcases Nat.lt_or_ge g w0.heap.size with h' | h'
   · exact h'
   · simp [Array.getElem?_eq_none h'] at h
  rw [hi.keep g hlt (hl g hg)]
  exact h
theorem Z2n {n : String} {cs : Array Value} (h : w0.var? P n = some cs) {g : Nat} (hg : P.globalNamed n = some g) : g < w0.heap.size := by
 unfold World.var? at h
 simp only [hg, Option.bind_some] at h
 rcases Nat.lt_or_ge g w0.heap.size with h' | h'
 · exact h'
 · simp [Array.getElem?_eq_none h'] at h
theorem GK.lt (h : GK P w0 M) {n : String} (hn : n ∈ ["internal/strconv.uint64pow10", "strconv.ErrSyntax", "strconv.ErrRange", "internal/bytealg.MaxLen"]) {g : Nat} (hg : P.globalNamed n = some g) : g < w0.heap.size := by
 simp only [List.mem_cons, List.mem_nil_iff, or_false] at hn
 rcases hn with rfl | rfl | rfl | rfl
 · exact Z2n h.pow hg
 · obtain ⟨_, _, e⟩ := h.syn; exact Z2n e hg
 · obtain ⟨_, _, e⟩ := h.ran; exact Z2n e hg
 · obtain ⟨_, e⟩ := h.mxl; exact Z2n e hg
theorem GK.with (h : GK P w0 M) (hi : Inv w0 M w H) (hl : ∀ n, n ∈ ["internal/strconv.uint64pow10", "strconv.ErrSyntax", "strconv.ErrRange", "internal/bytealg.MaxLen"] → ∀ g, P.globalNamed n = some g → g ∉ M') : GK P w M' :=
 ⟨Z34 h.pow (h.low _ (by simp)) hi, by obtain ⟨a, b, e⟩ := h.syn; exact ⟨a, b, Z34 e (h.low _ (by simp)) hi⟩, by obtain ⟨a, b, e⟩ := h.ran; exact ⟨a, b, Z34 e (h.low _ (by simp)) hi⟩,
  by obtain ⟨a, e⟩ := h.mxl; exact ⟨a, Z34 e (h.low _ (by simp)) hi⟩, hl⟩
theorem GK.mono (h : GK P w0 M) (hi : Inv w0 M w H) : GK P w [] := h.with hi (fun _ _ _ _ => by simp)
theorem GK.monoM (h : GK P w0 M) (hi : Inv w0 M w H) (hp : List.Perm H (Hm ++ R)) (hM : Hm.filterMap (·.1) = M') : GK P w M' := h.with hi (fun n hn g hg hm => by
 subst hM
 obtain ⟨o, ho⟩ := Jc hm
 rcases hi.low g o ((List.Perm.mem_iff hp).2 (List.mem_append_left _ ho)) with hl | hl
 · have := h.lt hn hg; omega
 · exact h.low n hn g hg hl)
theorem Gc {w w' : World} (hb : Below w.heap.size w w') : Inv w [] w' [] := ⟨hb.os, hb.tape, hb.output, hb.size, fun b h _ => hb.block b h, by simp, by simp, by simp⟩
theorem Zb9 {w w' : World} (hb : Below w.heap.size w w') {A : Nat} {o : Obj} (h : w'.heap[A]? = some o) (hl : w.heap.size ≤ A) : Inv w [] w' [(some A, o)] :=
 ⟨hb.os, hb.tape, hb.output, hb.size, fun b h _ => hb.block b h, fun b o' hm => by simp at hm; obtain ⟨rfl, rfl⟩ := hm; exact h, fun b o' hm => by simp at hm; obtain ⟨rfl, rfl⟩ := hm; exact .inl hl, by simp⟩
end
section fns
variable {P : Program} {ρ : Ren}
def PredF (P : Program) (g : Nat) (p : Nat → Bool) : Prop := ∀ (w : World) (x : Nat), x ≤ 1114111 → Fnc P g #[.int .i32 (x : Int)] w [] (fun v N => v = .bool (p x) ∧ N = [])
theorem PredF.grows {g : Nat} {p : Nat → Bool} (h : PredF P g p) (w : World) : PredGrows P g #[] p w := fun W x hx _ => by
 have := h W x hx
 simp only [Array.append_empty]
 refine Calls.mono this ?_
 rintro e w' ⟨v, N, ⟨rfl, rfl⟩, rfl, hi⟩
 exact ⟨rfl, hi.below⟩
theorem Zak (L : Lays.n229 P ρ) (g : Nat) (hF : Zz P g = true) (p : Nat → Bool) (hp : PredF P g p)
    (hi154 : (P.info? (ρ.t 154)).map (fun i => (i.zero, i.size, i.bytes)) = some (some (.agg #[.int .i64 0, .int .i64 0]), 2, 16))
    (hi9 : (P.info? (ρ.t 9)).map (fun i => (i.zero, i.size, i.bytes)) = some (some (.string ⟨#[]⟩), 1, 16)) (s : Str) (hs : s.length ≤ 4294967296) (w : World) {r : List Str} (hr : Z1q p s = r) :
    Fnc P (ρ.f 229) #[.string (bs s), .func (.func g) #[] #[]] w [] (fun v N => ∃ (ob : Option Nat) (n c : Nat) (j : List Value), v = .slice (sb ob) n c ∧ N = [(ob, .cells (arr Wj r j).toArray (ρ.t 9) (0, 0))] ∧ r.length = n ∧ n ≤ c ∧ j.length = (c - n) * 1 ∧ (ob = none → c = 0)) := by
  have h := Any.strings_FieldsFunc_grows L g #[] (fun args w => Gs hF args w) p (bs s) w (by rw [Xk]; exact hs) (hp.grows w) hi154 hi9
  refine Calls.mono h ?_
  rintro e w' ⟨A, rfl, hA, ⟨hl, hO⟩, hb⟩
  rw [Z8g, hr] at hl hO ⊢
  simp only [List.length_map] at hl hO ⊢
  rcases hO with ⟨hv, _⟩ | ⟨q, cap, cur, hv, _, hc, _, _, hsz, htk⟩
  · exact absurd hv (by simp)
  · simp only [Value.slice.injEq, Option.some.injEq, Addr.mk.injEq] at hv
    obtain ⟨⟨rfl, _⟩, _, rfl⟩ := hv
    have hcur : cur = (arr Wj r []).toArray := by
      apply Array.ext'
      rw [List.take_of_length_le (by rw [Array.length_toList, hsz]; exact Nat.le_refl _)] at htk
      rw [htk]
      simp only [arr, List.append_nil, List.map_map]
      rw [List.map_eq_flatMap]; rfl
    refine ⟨_, _, ⟨some A, r.length, r.length, [], rfl, rfl, rfl, Nat.le_refl _, by simp, fun e => by cases e⟩, rfl, ?_⟩
    rw [← hcur]
    exact Zb9 hb hc hA
theorem Fnc.anyf (L : LaysGw.n17 P ρ) (g : Nat) (hF : Zz P g = true) (p : Nat → Bool) (hp : PredF P g p) (s : Str) (w : World) :
    Fnc P (ρ.f 17) #[.string (bs s), .func (.func g) #[] #[]] w [] (fun v N => v = .bool (anyT p s) ∧ N = []) := by
  have h := Any.strings_ContainsFunc_grows L g #[] (fun args w => Gs hF args w) p (bs s) w (hp.grows w)
  refine Calls.mono h ?_
  rintro e w' ⟨rfl, hb⟩
  rw [Z82]
  exact ⟨_, _, ⟨rfl, rfl⟩, rfl, Gc hb⟩
def IfV (ev : Value) (b : Bool) : Prop := (b = true ∧ ev = .nilIface) ∨ (b = false ∧ ∃ t v, ev = .iface t v)
def Z0e (s : Str) : Int × Bool :=
  match Lib.parseIntB 64 s with
  | .ok v => (v, true)
  | .range => (Lib.intSat 64 s, false)
  | _ => (0, false)
theorem Zec (L : LaysC.n174 P ρ) (s : Str) (hs : s.length ≤ 281474976710656) (w : World) {M : List Nat} (hG : GK P w M) {n : Int} {b : Bool} (hr : Z0e s = (n, b)) :
    Fnc P (ρ.f 174) #[.string (bs s), .int .i64 10, .int .i64 64] w [] (fun v N => ∃ ev : Value, v = .tuple #[.int .i64 n, ev] ∧ N = [] ∧ IfV ev b) := by
  have hd := Vy s
  have hz : (bs s).size ≤ 281474976710656 := by rw [Xk]; exact hs
  unfold Z0e at hr
  cases h : Lib.parseIntB 64 s
  · rename_i v
    rw [h] at hr
    cases hr
    refine Calls.mono (Any.strconv_ParseInt_10_at64_ok L (bs s) (by omega) _ (by rw [hd]; exact h) w) ?_
    rintro e w' ⟨rfl, hw⟩
    refine ⟨_, _, ⟨_, rfl, rfl, .inl ⟨rfl, rfl⟩⟩, rfl, ?_⟩
    rcases hw with rfl | ⟨t, rfl⟩
    · exact Inv.refl w'
    · refine Gc ⟨rfl, rfl, rfl, by rw [Lib.bytesWorld_size]; omega, fun k hk => Lib.bytesWorld_at_old _ _ _ _ hk⟩
  · rw [h] at hr
    cases hr
    obtain ⟨tp, p, hv⟩ := hG.syn
    refine Calls.mono (Any.strconv_ParseInt_10_at64_syntax_var L (bs s) hz (by rw [hd]; exact h) tp p w hv) ?_
    rintro e w' ⟨A, rfl, hA, hc, hb⟩
    exact ⟨_, _, ⟨_, rfl, rfl, .inr ⟨rfl, _, _, rfl⟩⟩, rfl, Gc hb⟩
  · rw [h] at hr
    cases hr
    obtain ⟨tp, p, hv⟩ := hG.ran
    refine Calls.mono (Any.strconv_ParseInt_10_at64_range_var L (bs s) hz (by rw [hd]; exact h) tp p w hv) ?_
    rintro e w' ⟨A, rfl, hA, hc, hb⟩
    rw [hd]
    exact ⟨_, _, ⟨_, rfl, rfl, .inr ⟨rfl, _, _, rfl⟩⟩, rfl, Gc hb⟩
theorem Z8b (w : World) (k : Nat) (os : Array Obj) : Below w.heap.size w (Sort.grow (w.drewN k) os) := ⟨rfl, rfl, rfl, by show w.heap.size ≤ (w.heap ++ os).size; rw [Array.size_append]; omega, fun j hj => by
 show (w.heap ++ os)[j]? = _
 rw [Array.getElem?_append_left hj]⟩
theorem Ze9 (L : LaysM.n173 P ρ) (n : Int) (hn : i64ok n) (w : World) {M : List Nat} (hG : GK P w M) : Fnc P (ρ.f 173) #[.int .i64 n, .int .i64 10] w [] (fun v N => v = .string (bs (Yj n)) ∧ N = []) := by
 refine Calls.mono (Any.strconv_FormatInt_10 L n hn.1 hn.2 w hG.pow) ?_
 rintro e w' ⟨rfl, k, os, rfl⟩
 rw [Z6y hn]
 exact ⟨_, _, ⟨rfl, rfl⟩, rfl, Gc (Z8b w k os)⟩
theorem Fnc.itoa (L : LaysM.n171 P ρ) (n : Int) (hn : i64ok n) (w : World) {M : List Nat} (hG : GK P w M) : Fnc P (ρ.f 171) #[.int .i64 n] w [] (fun v N => v = .string (bs (Yj n)) ∧ N = []) := by
 refine Calls.mono (Any.strconv_Itoa L n hn.1 hn.2 w hG.pow) ?_
 rintro e w' ⟨rfl, k, os, rfl⟩
 rw [Z6y hn]
 exact ⟨_, _, ⟨rfl, rfl⟩, rfl, Gc (Z8b w k os)⟩
def idxB : List Int → Int → Int
  | [], _ => -1
  | x :: l, c => if x = c then 0 else if idxB l c = -1 then -1 else idxB l c + 1
end fns
end Go.Acq
namespace Go.Acq
open Go
variable {H : Type} {enc : TypeId × Value → H}
theorem handed_of_change {a : Assume} {C : Checked} {os : Os} {f : FuncId} {fn : Func} {s : ChangeSpec} {conds : List PathCond} {apart fresh handsOn again : Bool} {X : World → Array Value → Prop}
    (hX : ∀ (w w' : World) (args : Array Value), w.heap = w'.heap → X w args → X w' args)
    (own : ownKnob C.prog.godebug = none) (started : os.Started) (noInit : C.prog.inits.idxOf? f = none) (hfn : C.prog.funcs[f]? = some fn)
    (witness : ∃ (w : World) (tape : Tape) (i : Input), w.os = os ∧ (w.forCall tape i).Shaped C.prog ∧ i.vars = [] ∧ Input.okWide C.prog (w.forCall tape i) .any w.heap.size f i ∧
      ((s.pre enc C.prog fn conds apart (w.forCall tape i).memory i.args ∧ X (w.forCall tape i).memory i.args) ∧ sizedMet enc C.prog fn (OpenSpec.ofChange s) apart (w.forCall tape i).memory i.args) ∧ a.holds C.prog (lone (Frame.enter C.prog f i.args .normal) [] (w.forCall tape i)))
    (contract : ∀ (W : World) (base : Nat) (args : Array Value) (ds gs : List (DataW H)) (before : List MemPlace),
      (∀ (j : Nat) t v, fn.params[j]? = some t → args[j]? = some v → Value.okWide C.prog W .any base t v) →
      DataW.Whole enc C.prog fn.params.toList s.vars apart W args.toList ds gs before → X W args → W.ShapedOpen C.prog →
      Calls C.prog f args W fun e W' => ∃ v, e = .returned v ∧ s.post enc C.prog fn apart fresh handsOn again W args v W') :
    ReturnsInHanded a C os f .any (fun w args => (s.pre enc C.prog fn conds apart w args ∧ X w args) ∧ sizedMet enc C.prog fn (OpenSpec.ofChange s) apart w args) (s.post enc C.prog fn apart fresh handsOn again) := by
  refine returnsInHanded_of_calls own started noInit witness ?_
  intro w tape i _ hsh _ hok hpre hholds
  obtain ⟨_, _, _, fn', hfn', _, _, _, _, hval⟩ := hok
  have e : fn' = fn := Option.some.inj (hfn'.symm.trans hfn)
  subst e
  obtain ⟨⟨⟨ds, gs, before, hw, hc⟩, hx⟩, hz⟩ := hpre
  have hw' := DataW.Whole.of_heap (w' := w.forCall tape i) (by rfl) hw
  refine (contract (w.forCall tape i) w.heap.size i.args ds gs before hval hw' (hX _ _ _ (by rfl) hx) hsh).mono fun e W' ⟨v, he, hp⟩ => ?_
  subst he
  exact ChangeSpec.post_blind hp
theorem int_of_shaped {P : Program} {w : World} {n : String} {g : Nat} {t : TypeId} {zero : Array Value} {k : IntKind} (h : w.ShapedOpen P) (hn : P.globalNamed n = some g) (hg : g < P.globals.size)
    (h0 : ((begin P (fun _ _ => 0) default).world.heap[g]?).bind Obj.row? = some (zero, t)) (hz : zero.size = 1) (hb : P.buildable t = true) (hc : P.cellTypes P.depth t = some [t]) (hu : P.underlying t = some (.int k)) :
    ∃ m, w.var? P n = some #[.int k m] := by
  obtain ⟨m, hm⟩ := Go.Proofs.cell_of_shapedOpen_int h hg h0 hz hb hc hu
  obtain ⟨cs, hh, hs, -⟩ := h.1 g zero t hg h0
  refine ⟨m, ?_⟩
  have h1 : cs.size = 1 := hs.trans hz
  unfold World.cell? at hm
  rw [hh] at hm
  unfold World.var?
  rw [hn]
  simp only [Option.bind_some, hh]
  have h2 : cs[0]? = some (.int k m) := by simpa using hm
  obtain ⟨l⟩ := cs
  match l, h1, h2 with
  | [x], _, h2 =>
    have : x = .int k m := by simpa using h2
    rw [this]
  | [], h1, _ => simp at h1
  | _ :: _ :: _, h1, _ => simp at h1
end Go.Acq
namespace Go.Acq
open Go Go.RowKit Go.Proofs Go.Shelf
def idxT (xs : List Int) (c : Int) : Int := Lib.indexByte (bu xs) (UInt8.ofNat c.toNat)
section rules
variable {C : Cx} {ops : Array Oper} {Q : Exit → Act → World → Prop} {l : List Nat} {E : Env} {H R : Heap} {i d : Nat} {ty : TypeId} {Zc : String} {af : Array Edge} {g : Option (Nat × Bool)}
theorem TO.idxB {f : FuncId} {x y : Operand} {at' : Array TypeId} {base : Option Addr} {n c : Nat} {xs : List Int} {cv : Int} (hF : ExtF C.P f Extern.BytealgIndexByte.indexByte)
    (q0_ : ops[i]? = some ⟨some d, .call ⟨.value (.func f), #[x, y], at'⟩, ty, Zc, af, g⟩ ∧ Zj ops E g = true ∧ Nat.ble (d + 1) C.n = true ∧ ev E x = some (.slice base n c) ∧ ev E y = some (.int .u8 cv)) (hr : ∀ w, Inv C.w0 C.M w H → RS w [] (intC .u8) 1 base n c xs)
    (kk : TO C ops Q l ((d, .int .i64 (idxT xs cv)) :: E) H) : TO C ops Q (i :: l) E H := have ⟨ho, hg, hd, hx, hy⟩ := q0_;
  Xm ho hg hd (by simp) (fun a w hf hi => by
    obtain ⟨fn, h1, h2, h3, h4, h5⟩ := hF
    have hR := (hr w hi).ro
    have hcall : (Extern.BytealgIndexByte.indexByte #[.slice base n c, .int .u8 cv]).run C.P w = .ok (.int .i64 (idxT xs cv)) w := by
      cases base with
      | none =>
        have h6 := hR.nil rfl
        have h7 : xs = [] := List.eq_nil_of_length_eq_zero (by rw [hR.len]; exact h6)
        subst h7
        rw [Lib.run_indexByteNil w n c cv]; rfl
      | some ad =>
        rw [Lib.run_indexByteAt w ad n c xs hR.len (fun q hq => by
          have := hR.at 0 (o := q) (c := 0) (by rw [hR.len]; exact hq) (by omega)
          simpa [ea, intC] using this) cv]; rfl
    have e : a.eval (.func f) = .func (.func f) #[] #[] := rfl
    simp [execOp, resolve, Deferred.ofValue, invoke, hf.ev hx, hf.ev hy, e, run_callFunc_extern h1 h2 h3 h4 h5, hcall, Result.andThen]) kk
theorem Z95 {α : Type} {xs : List α} {t e : TypeId} {x y z : Operand} {base : Option Addr} {n c s : Nat} {k k' : IntKind} {p : Int} (hn : xs.length = n) (hc : n ≤ c) (hp : 0 ≤ p ∧ p ≤ (xs.length : Int))
    (q0_ : ops[i]? = some ⟨some d, .slice t x none (some y) (some z), ty, Zc, af, g⟩ ∧ Zj ops E g = true ∧ Nat.ble (d + 1) C.n = true ∧ ev E x = some (.slice base n c) ∧ ev E y = some (.int k p) ∧ ev E z = some (.int k' p)) (ht : Yv C.P t = some e) (hs : Yi C.P e = some s)
    (kk : TO C ops Q l ((d, .slice base p.toNat p.toNat) :: E) H) : TO C ops Q (i :: l) E H := have ⟨ho, hg, hd, hx, hy, hz⟩ := q0_;
  Xm ho hg hd (by simp) (fun a w hf hi => by
    have hu := Ud ht
    have hb : ∀ b : Option Addr, Option.map (fun x => x.add 0) b = b := fun b => by cases b <;> simp [Addr.add]
    have h0 := hp.1
    have h1 : p ≤ (c : Int) := by have := hp.2; omega
    have h2 : p ≤ (p.toNat : Int) := by omega
    simp [execOp, hf.ev hx, hf.ev hy, hf.ev hz, Instr.sliceAt, Instr.slice, Instr.sliceBounds, Instr.sliceBound, asIntOf, run_underlying hu, h0, h1, Jo hs, hb]
    intro hh; omega) kk
theorem Z6q {α : Type} {w : World} {M : List Nat} {f : α → List Value} {s n c : Nat} {base : Option Addr} {xs : List α} (h : RS w M f s base n c xs) {p : Int} (hp : 0 ≤ p ∧ p ≤ (xs.length : Int)) : RS w M f s base p.toNat p.toNat (xs.take p.toNat) := by
 have h1 := h.take hp
 exact ⟨h1.ro, h1.far, Nat.le_refl _⟩
def Ru (P : Program) (t : TypeId) : Bool :=
  match P.underlying t with
  | some (.interface _) => true
  | _ => false
theorem Zaq {P : Program} {t : TypeId} (h : Ru P t = true) : ∃ ms, P.underlying t = some (.interface ms) := by
 unfold Ru at h
 split at h
 · rename_i ms hu; exact ⟨ms, hu⟩
 · cases h
theorem Za2 {P : Program} (w : World) (n : Nat) {t : TypeId} {ev' : Value} {b : Bool} (hI : IfV ev' b) (ht : Ru P t = true) : (Op.equalIn (n + 1) t ev' .nilIface).run P w = .ok b w := by
 obtain ⟨ms, hu⟩ := Zaq ht
 rcases hI with ⟨rfl, rfl⟩ | ⟨rfl, tt, vv, rfl⟩
 · simp [Op.equalIn, run_underlying hu]
 · simp [Op.equalIn, run_underlying hu]
theorem Zc1 {op : BinOp} {t : TypeId} {x : Operand} {ev' : Value} {b : Bool} (hI : IfV ev' b) : eqGuard op t x (.const .nilIface) ev' .nilIface = pure () := by
 rcases hI with ⟨rfl, rfl⟩ | ⟨rfl, tt, vv, rfl⟩
 · cases op <;> first | rfl | (cases x <;> rfl)
 · cases op <;> rfl
theorem Zce {t t2 : TypeId} {x : Operand} {ev' : Value} {b : Bool} (hI : IfV ev' b) (q0_ : ops[i]? = some ⟨some d, .binOp .neq t x (.const .nilIface) t2, ty, Zc, af, g⟩ ∧ Zj ops E g = true ∧ Nat.ble (d + 1) C.n = true ∧ ev E x = some ev') (ht : Ru C.P t = true) (kk : TO C ops Q l ((d, .bool (!b)) :: E) H) : TO C ops Q (i :: l) E H := have ⟨ho, hg, hd, hx⟩ := q0_;
  Xm ho hg hd (by simp) (fun a w hf _ => by
    have hb : binOp .neq t ev' .nilIface = (do pure (.bool (!(← Op.equal t ev' .nilIface)))) := by
      rcases hI with ⟨rfl, rfl⟩ | ⟨rfl, tt, vv, rfl⟩ <;> rfl
    have := Z7g (Z7c fun q => Za2 (P := C.P) w q hI ht) hb
    have ey : a.eval (.const .nilIface) = .nilIface := rfl
    simp only [execOp, hf.ev hx, ey, Zc1 hI]
    simp [this]) kk
end rules
def BufO (ob : Option Nat) (b c : Nat) : Prop := c ≤ 9223372036854775807 ∧ ∀ q, ob = some q → b ≤ q
end Go.Acq
namespace Go.Acq
open Go Go.RowKit Go.Proofs Go.Shelf
def Z1y (e : TypeId) (R : Heap) : Bool := R.all fun p => match p.1, p.2 with
  | none, _ => true
  | some _, .cells _ T' _ => T' != e
  | some _, _ => true
theorem Z5k {e : TypeId} {R : Heap} (h : Z1y e R = true) {k : Nat} {o : Obj} (hm : (some k, o) ∈ R) : ∀ c fz, o ≠ .cells c e fz := by
 intro c fz ho
 have := List.all_eq_true.1 h _ hm
 subst ho
 simp at this
theorem BufO.nil (b : Nat) : BufO none b 0 := ⟨by omega, fun q e => by cases e⟩
section rules
variable {C : Cx} {ops : Array Oper} {Q : Exit → Act → World → Prop} {l : List Nat} {E : Env} {H R : Heap} {i d : Nat} {ty : TypeId} {Zc : String} {af : Array Edge} {g : Option (Nat × Bool)}
theorem Z6h {f : FuncId} {xs : Array Operand} {at' : Array TypeId} {vs : List Value} {Post : Value → Heap → Prop} (hF : Zz C.P f = true)
    (ho : ops[i]? = some ⟨some d, .call ⟨.value (.func f), xs, at'⟩, ty, Zc, af, g⟩) (hg : Zj ops E g = true) (hd : Nat.ble (d + 1) C.n = true) (hx : Vj E xs.toList = some vs)
    (hc : ∀ w, Inv C.w0 C.M w H → Calls C.P f vs.toArray w (fun e w' => ∃ v H', Post v H' ∧ e = .returned v ∧ Inv C.w0 C.M w' H'))
    (kk : ∀ v H', Post v H' → TO C ops Q l ((d, v) :: E) H') : TO C ops Q (i :: l) E H :=
  Jy ho hg (by simp) fun a w hf hi => by
    have e1 : xs.map a.eval = vs.toArray := by apply Array.ext'; simpa using Js hf hx
    have hrun : (execOp a.eval ⟨some d, .call ⟨.value (.func f), xs, at'⟩, ty, Zc, af, g⟩).run C.P w = .ok (.enter f vs.toArray) w := by
      simp [execOp, resolve, Deferred.ofValue, invoke, Act.eval, e1, Gs hF]
    rw [hrun]
    refine ⟨by simp [FW], ?_⟩
    refine callsIn_FW.2 (Calls.mono (hc w hi) ?_)
    rintro e w' ⟨v, H', hP, rfl, hN⟩
    exact kk v H' hP _ _ (hf.put hd v) hN
variable {ρ : Ren} {b n c : Nat} {lr : Int} {ob : Option Nat} {xs : List Int} {j : List Value}
theorem Z6p (T e : TypeId) {w0 w : World} {M : List Nat} {R1 : Heap} (hi : Inv w0 M w H)
    (hb : Take (some b, .cells #[.slice (sb ob) n c, .int .i64 0, .int .i8 lr] T (0, 0)) H R1) (hr : Take (ob, .cells (arr (intC .u8) xs j).toArray e (0, 0)) R1 R)
    (hn : xs.length = n) (hc : n ≤ c) (hj : j.length = (c - n) * 1) (hz : ob = none → c = 0) (hB : BufO ob b c) : Lib.IsBuffer T e b b (xs.map (Value.int .u8)) w := by
  have h1 := hi.perm (hb.trans (List.Perm.cons _ hr))
  have hbk := h1.own b _ (.head _)
  have hl : (xs.map (Value.int .u8)).length = n := by rw [List.length_map]; exact hn
  refine ⟨Nat.le_refl _, .slice (sb ob) n c, lr, hbk, ⟨by rw [Nat.mul_one], ?_⟩, ?_⟩
  · cases ob with
    | none =>
      have h0 := hz rfl
      have hn0 : n = 0 := by omega
      subst hn0; subst h0
      exact .inl ⟨rfl, hl⟩
    | some q =>
      have hq := h1.own q _ (.tail _ (.head _))
      refine .inr ⟨q, c, _, by rw [hl]; rfl, hB.2 q rfl, hq, by rw [hl]; exact hc, ?_, ?_, ?_⟩
      · have := hB.1; unfold maxLen; omega
      · simp only [List.size_toArray, arr, List.length_append, Kp (s := 1) (f := intC .u8) (fun _ => rfl)]; omega
      · rw [hl]
        have e1 : xs.flatMap (intC .u8) = xs.map (Value.int .u8) := by rw [List.map_eq_flatMap]
        simp only [arr, e1, Nat.mul_one]
        rw [List.take_left' hl]
  · cases ob with
    | none => simp [sb, Value.ownBlock]
    | some q =>
      simp only [sb, Option.map_some, Value.ownBlock, ne_eq, Option.some.injEq]
      have ha := h1.apart
      simp only [List.filterMap_cons, List.nodup_cons, List.mem_cons, not_or] at ha
      exact fun e => ha.1.1 e.symm
theorem buf_back {T e : TypeId} {w0 w w' : World} {R1 : Heap} {ys : List Int} (hi : Inv w0 [] w H)
    (hb : Take (some b, .cells #[.slice (sb ob) n c, .int .i64 0, .int .i8 lr] T (0, 0)) H R1) (hr : Take (ob, .cells (arr (intC .u8) xs j).toArray e (0, 0)) R1 R) (hR : Z1y e R = true)
    (h : Lib.IsBuffer T e b b (ys.map (Value.int .u8)) w') (hBe : Below b w w') (hO : Lib.OthersKept e (some b) w w') (hlim : ys.length ≤ 140737488355328) :
    ∃ (ob' : Option Nat) (c' : Nat) (j' : List Value) (lr' : Int), ys.length ≤ c' ∧ j'.length = (c' - ys.length) * 1 ∧ (ob' = none → c' = 0) ∧ BufO ob' b c' ∧
      Inv w0 [] w' ((some b, .cells #[.slice (sb ob') ys.length c', .int .i64 0, .int .i8 lr'] T (0, 0)) :: (ob', .cells (arr (intC .u8) ys j').toArray e (0, 0)) :: R) := by
  obtain ⟨_, v, lr', hbk, ⟨hl1, hO1⟩, hne⟩ := h
  have hl : (ys.map (Value.int .u8)).length = ys.length := List.length_map ..
  rw [hl] at hO1
  have h1 := hi.perm (hb.trans (List.Perm.cons _ hr))
  have hbl : w0.heap.size ≤ b := by
    rcases h1.low b _ (.head _) with hh | hh
    · exact hh
    · simp at hh
  have hap := h1.apart
  simp only [List.filterMap_cons, List.nodup_cons] at hap
  have hRb : ∀ k o, (some k, o) ∈ R → k ≠ b := fun k o hm e => by
    subst e
    have hm2 := Gq hm
    cases ob with
    | none => exact hap.1 hm2
    | some q => exact hap.1 (List.mem_cons_of_mem _ hm2)
  have hRk : ∀ k o, (some k, o) ∈ R → w'.heap[k]? = some o := fun k o hm => by
    have hk : w.heap[k]? = some o := h1.own k o (.tail _ (.tail _ hm))
    exact hO k o hk (by simpa using hRb k o hm) (Z5k hR hm)
  have hRl : ∀ k o, (some k, o) ∈ R → w0.heap.size ≤ k ∨ k ∈ ([] : List Nat) := fun k o hm => h1.low k o (.tail _ (.tail _ hm))
  have hRn : (R.filterMap (·.1)).Nodup := by
    cases ob with
    | none => exact hap.2
    | some q => exact (List.nodup_cons.1 hap.2).2
  have hRb2 : b ∉ R.filterMap (·.1) := fun hm => by
    obtain ⟨o, ho⟩ := Jc hm
    exact hRb b o ho rfl
  have hkeep : ∀ k, k < w0.heap.size → k ∉ ([] : List Nat) → w'.heap[k]? = w0.heap[k]? := fun k hk hm => by
    rw [hBe.block k (by omega)]; exact h1.keep k hk hm
  have hsz : w0.heap.size ≤ w'.heap.size := Nat.le_trans h1.size hBe.size
  rcases hO1 with ⟨rfl, h0⟩ | ⟨q, cap, cur, rfl, hq, hcur, hnc, hcm, hcs, htk⟩
  · have hy : ys = [] := List.eq_nil_of_length_eq_zero h0
    subst hy
    refine ⟨none, 0, [], lr', Nat.le_refl _, rfl, fun _ => rfl, ⟨by omega, fun q e => by cases e⟩, ?_⟩
    refine ⟨hBe.os.trans h1.os, hBe.tape.trans h1.tape, hBe.output.trans h1.output, hsz, hkeep, fun k o hm => ?_, fun k o hm => ?_, ?_⟩
    · rcases List.mem_cons.1 hm with e | hm
      · cases e; exact hbk
      · rcases List.mem_cons.1 hm with e | hm
        · cases e
        · exact hRk k o hm
    · rcases List.mem_cons.1 hm with e | hm
      · cases e; exact .inl hbl
      · rcases List.mem_cons.1 hm with e | hm
        · cases e
        · exact hRl k o hm
    · simp only [List.filterMap_cons, List.nodup_cons]
      exact ⟨hRb2, hRn⟩
  · rw [Nat.mul_one] at hcs htk
    have hqb : q ≠ b := fun e => hne (by rw [← e]; rfl)
    have hqR : q ∉ R.filterMap (·.1) := fun hm => by
      obtain ⟨o, ho⟩ := Jc hm
      have h9 := hRk q o ho
      rw [hcur] at h9
      injection h9 with h9
      exact Z5k hR ho _ _ h9.symm
    have e1 : ys.flatMap (intC .u8) = ys.map (Value.int .u8) := by rw [List.map_eq_flatMap]
    have hrow : cur = (arr (intC .u8) ys (cur.toList.drop ys.length)).toArray := by
      apply Array.ext'
      simp only [arr, e1]
      rw [← htk, List.take_append_drop]
    refine ⟨some q, cap, cur.toList.drop ys.length, lr', hnc, by rw [List.length_drop, Array.length_toList, hcs, Nat.mul_one], (fun e => by cases e), ⟨by unfold maxLen at hcm; omega, fun q' e => by cases e; exact hq⟩, ?_⟩
    refine ⟨hBe.os.trans h1.os, hBe.tape.trans h1.tape, hBe.output.trans h1.output, hsz, hkeep, fun k o hm => ?_, fun k o hm => ?_, ?_⟩
    · rcases List.mem_cons.1 hm with e | hm
      · cases e; exact hbk
      · rcases List.mem_cons.1 hm with e | hm
        · injection e with e1 e2
          injection e1 with e1
          subst e1; subst e2
          rw [← hrow]; exact hcur
        · exact hRk k o hm
    · rcases List.mem_cons.1 hm with e | hm
      · cases e; exact .inl hbl
      · rcases List.mem_cons.1 hm with e | hm
        · injection e with e1 e2
          injection e1 with e1
          subst e1
          exact .inl (by omega)
        · exact hRl k o hm
    · simp only [List.filterMap_cons, List.nodup_cons, List.mem_cons, not_or]
      exact ⟨⟨fun e => hqb e.symm, hRb2⟩, hqR, hRn⟩
theorem Z42 (L : LaysM.n178 C.P ρ) {x y : Operand} {at' : Array TypeId} {s : Str} {R1 : Heap} (hlim : (xs ++ ub s).length ≤ 140737488355328) (hM : C.M = []) (hF : Zz C.P (ρ.f 178) = true)
    (q0_ : ops[i]? = some ⟨some d, .call ⟨.value (.func (ρ.f 178)), #[x, y], at'⟩, ty, Zc, af, g⟩ ∧ Zj ops E g = true ∧ Nat.ble (d + 1) C.n = true ∧ ev E x = some (.pointer (some ⟨b, 0, none⟩)) ∧ ev E y = some (.string (bs s)))
    (hb : Take (some b, .cells #[.slice (sb ob) n c, .int .i64 0, .int .i8 lr] (ρ.t 93) (0, 0)) H R1) (hr : Take (ob, .cells (arr (intC .u8) xs j).toArray (ρ.t 5) (0, 0)) R1 R) (hR : Z1y (ρ.t 5) R = true)
    (hn : xs.length = n) (hc : n ≤ c) (hj : j.length = (c - n) * 1) (hz : ob = none → c = 0) (hB : BufO ob b c)
    (kk : ∀ (ob' : Option Nat) (n' c' : Nat) (j' : List Value) (lr' : Int), (xs ++ ub s).length = n' → n' ≤ c' → j'.length = (c' - n') * 1 → (ob' = none → c' = 0) → BufO ob' b c' →
      TO C ops Q l ((d, .tuple #[.int .i64 (s.length : Int), .nilIface]) :: E) ((some b, .cells #[.slice (sb ob') n' c', .int .i64 0, .int .i8 lr'] (ρ.t 93) (0, 0)) :: (ob', .cells (arr (intC .u8) (xs ++ ub s) j').toArray (ρ.t 5) (0, 0)) :: R)) :
    TO C ops Q (i :: l) E H := by
  obtain ⟨ho, hg, hd, hx, hy⟩ := q0_
  refine Z6h (vs := [.pointer (some ⟨b, 0, none⟩), .string (bs s)]) (Post := fun v H' => v = .tuple #[.int .i64 (s.length : Int), .nilIface] ∧ ∃ (ob' : Option Nat) (c' : Nat) (j' : List Value) (lr' : Int), (xs ++ ub s).length ≤ c' ∧ j'.length = (c' - (xs ++ ub s).length) * 1 ∧ (ob' = none → c' = 0) ∧ BufO ob' b c' ∧
      H' = (some b, .cells #[.slice (sb ob') (xs ++ ub s).length c', .int .i64 0, .int .i8 lr'] (ρ.t 93) (0, 0)) :: (ob', .cells (arr (intC .u8) (xs ++ ub s) j').toArray (ρ.t 5) (0, 0)) :: R) hF ho hg hd (by simp [Vj, hx, hy]) (fun w hi => ?_) ?_
  · have hB1 := Z6p (ρ.t 93) (ρ.t 5) hi hb hr hn hc hj hz hB
    have hbl : b < w.heap.size := hi.lt hb.mem
    rw [hM] at hi ⊢
    have hcall := Any.Buffer_WriteString_k L b b (xs.map (Value.int .u8)) (bs s) w hB1 (by omega) (fun v hv => by
      obtain ⟨y', _, rfl⟩ := List.mem_map.1 hv; rfl) (by rw [List.length_map, Xk]; rw [List.length_append, Jd] at hlim; exact hlim)
    refine Calls.mono hcall ?_
    rintro e w' ⟨rfl, hB2, hBe, hOk⟩
    have e2 : xs.map (Value.int .u8) ++ Lib.byteCells (bs s).data.toList = (xs ++ ub s).map (Value.int .u8) := by
      rw [Vy, List.map_append]; simp [Lib.byteCells, ub]
    rw [e2] at hB2
    obtain ⟨ob', c', j', lr', h1, h2, h3, h4, h5⟩ := buf_back hi hb hr hR hB2 hBe hOk hlim
    refine ⟨_, _, ⟨?_, ob', c', j', lr', h1, h2, h3, h4, rfl⟩, rfl, h5⟩
    rw [Xk]
  · rintro v H' ⟨rfl, ob', c', j', lr', h1, h2, h3, h4, rfl⟩
    exact kk ob' _ c' j' lr' rfl h1 h2 h3 h4
theorem Z6k (L : LaysM.n183 C.P ρ) {x : Operand} {at' : Array TypeId} {R1 : Heap} (hF : Zz C.P (ρ.f 183) = true)
    (q0_ : ops[i]? = some ⟨some d, .call ⟨.value (.func (ρ.f 183)), #[x], at'⟩, ty, Zc, af, g⟩ ∧ Zj ops E g = true ∧ Nat.ble (d + 1) C.n = true ∧ ev E x = some (.pointer (some ⟨b, 0, none⟩)) ∧ C.M = [])
    (hb : Take (some b, .cells #[.slice (sb ob) n c, .int .i64 0, .int .i8 lr] (ρ.t 93) (0, 0)) H R1) (hr : Take (ob, .cells (arr (intC .u8) xs j).toArray (ρ.t 5) (0, 0)) R1 R) (hR : Z1y (ρ.t 5) R = true)
    (hn : xs.length = n) (hc : n ≤ c) (hj : j.length = (c - n) * 1) (hz : ob = none → c = 0) (hB : BufO ob b c)
    (kk : ∀ (ob' : Option Nat) (n' c' : Nat) (j' : List Value), xs.length = n' → n' ≤ c' → j'.length = (c' - n') * 1 → (ob' = none → c' = 0) →
      TO C ops Q l ((d, .slice (sb ob') n' c') :: E) ((ob', .cells (arr (intC .u8) xs j').toArray (ρ.t 5) (0, 0)) :: R)) :
    TO C ops Q (i :: l) E H := by
  obtain ⟨ho, hg, hd, hx, hM⟩ := q0_
  refine Z6h (vs := [.pointer (some ⟨b, 0, none⟩)]) (Post := fun v H' => ∃ (ob' : Option Nat) (c' : Nat) (j' : List Value), v = .slice (sb ob') xs.length c' ∧ xs.length ≤ c' ∧ j'.length = (c' - xs.length) * 1 ∧ (ob' = none → c' = 0) ∧
      H' = (ob', .cells (arr (intC .u8) xs j').toArray (ρ.t 5) (0, 0)) :: R) hF ho hg hd (by simp [Vj, hx]) (fun w hi => ?_) ?_
  · have hB1 := Z6p (ρ.t 93) (ρ.t 5) hi hb hr hn hc hj hz hB
    have hbl : b < w.heap.size := hi.lt hb.mem
    rw [hM] at hi ⊢
    refine Calls.mono (Any.Buffer_Bytes L b b (xs.map (Value.int .u8)) w hB1) ?_
    rintro e w' ⟨v, rfl, hv, k, rfl⟩
    have hbk : (w.drewN k).heap[b]? = some (.cells #[v, .int .i64 0, .int .i8 0] (ρ.t 93) (0, 0)) ∨ True := .inr trivial
    have hl : (xs.map (Value.int .u8)).length = xs.length := List.length_map ..
    have h1 := hi.perm (hb.trans (List.Perm.cons _ hr))
    have hi2 : Inv C.w0 [] (w.drewN k) R := (hi.pick (Z0q (S := [(some b, Obj.cells #[.slice (sb ob) n c, .int .i64 0, .int .i8 lr] (ρ.t 93) (0, 0)), (ob, .cells (arr (intC .u8) xs j).toArray (ρ.t 5) (0, 0))]) ((hb.trans (List.Perm.cons _ hr)).trans (by
      exact (List.perm_append_comm (l₁ := [_, _]) (l₂ := R)))))).ofHeap rfl rfl rfl rfl
    rcases hv with ⟨_, ⟨rfl, h0⟩ | ⟨q, cap, cur, rfl, hq, hcur, hnc, hcm, hcs, htk⟩⟩
    · rw [hl] at h0
      have hy : xs = [] := List.eq_nil_of_length_eq_zero h0
      subst hy
      exact ⟨_, _, ⟨none, 0, [], rfl, Nat.le_refl _, rfl, fun _ => rfl, rfl⟩, rfl, hi2.addNone _⟩
    · rw [hl] at hnc htk
      rw [Nat.mul_one] at hcs htk
      have hcur' : w.heap[q]? = some (.cells cur (ρ.t 5) (0, 0)) := hcur
      have hqR : q ∉ R.filterMap (·.1) := fun hm => by
        obtain ⟨o, ho'⟩ := Jc hm
        have h9 : w.heap[q]? = some o := h1.own q o (.tail _ (.tail _ ho'))
        rw [hcur'] at h9
        injection h9 with h9
        exact Z5k hR ho' _ _ h9.symm
      have e1 : xs.flatMap (intC .u8) = xs.map (Value.int .u8) := by rw [List.map_eq_flatMap]
      have hrow : cur = (arr (intC .u8) xs (cur.toList.drop xs.length)).toArray := by
        apply Array.ext'
        simp only [arr, e1]
        rw [← htk, List.take_append_drop]
      have hbl2 : C.w0.heap.size ≤ b := by
        rcases h1.low b _ (.head _) with hh | hh
        · exact hh
        · simp at hh
      refine ⟨_, _, ⟨some q, cap, cur.toList.drop xs.length, by rw [hl]; rfl, hnc, by rw [List.length_drop, Array.length_toList]; omega, (fun e => by cases e), rfl⟩, rfl, ?_⟩
      refine ⟨hi2.os, hi2.tape, hi2.output, hi2.size, hi2.keep, fun k' o hm => ?_, fun k' o hm => ?_, ?_⟩
      · rcases List.mem_cons.1 hm with e | hm
        · injection e with e1 e2
          injection e1 with e1
          subst e1; subst e2
          rw [← hrow]; exact hcur
        · exact hi2.own k' o hm
      · rcases List.mem_cons.1 hm with e | hm
        · injection e with e1 e2
          injection e1 with e1
          subst e1
          exact .inl (by omega)
        · exact hi2.low k' o hm
      · simp only [List.filterMap_cons, List.nodup_cons]
        exact ⟨hqR, hi2.apart⟩
  · rintro v H' ⟨ob', c', j', rfl, h1, h2, h3, rfl⟩
    exact kk ob' _ c' j' rfl h1 h2 h3
theorem Za5 {P : Program} {w : World} {b : Nat} {cs : Array Value} {T : TypeId} {fr : Nat × Nat} (hb : w.heap[b]? = some (.cells cs T fr)) : (markStringish ⟨b, 0, none⟩).run P w = .ok () (w.freeze ⟨b, cs.size, none⟩ 1) := by
 show ((Go.shape b).bind _).run P w = _
 simp only [Go.shape, Sem.bind, Sem.run, World.shape?, hb]
 rfl
theorem Z40 {s e T : TypeId} {x : Operand} {b n c : Nat} {cs : Array Value} {fr : Nat × Nat} (q0_ : ops[i]? = some ⟨some d, .convert s s x, ty, Zc, af, g⟩ ∧ Zj ops E g = true ∧ Nat.ble (d + 1) C.n = true ∧ ev E x = some (.slice (some ⟨b, 0, none⟩) n c)) (hs : Yv C.P s = some e) (he : C.P.underlying e = some (.int .u8)) (ht : Take (some b, .cells cs T fr) H R)
    (kk : ∀ fr' : Nat × Nat, TO C ops Q l ((d, .slice (some ⟨b, 0, none⟩) n c) :: E) ((some b, .cells cs T fr') :: R)) : TO C ops Q (i :: l) E H := have ⟨ho, hg, hd, hx⟩ := q0_;
  Jy ho hg (by simp) fun a w hf hi => by
    have hb := hi.own _ _ ht.mem
    have h1 : (execOp a.eval ⟨some d, .convert s s x, ty, Zc, af, g⟩).run C.P w = .ok (.value (.slice (some ⟨b, 0, none⟩) n c)) (w.freeze ⟨b, cs.size, none⟩ 1) := by
      simp only [execOp, hf.ev hx]
      simp [convert, run_underlying (Ud hs), run_underlying he, Za5 hb]
    rw [h1]
    have hi2 : Inv C.w0 C.M (w.freeze ⟨b, cs.size, none⟩ 1) ((some b, .cells cs T (if fr.1 == fr.2 then (cs.size, cs.size + 1) else (min fr.1 cs.size, max fr.2 (cs.size + 1)))) :: R) := by
      refine hi.upd ht rfl rfl rfl (by simp [World.freeze]) ?_ fun k hk => ?_
      · obtain ⟨lo, hi⟩ := fr
        simp [World.freeze, Array.getElem?_modify, hb]
      · simp only [World.freeze, if_neg (Nat.one_ne_zero), Array.getElem?_modify]
        rw [if_neg (fun e => hk e.symm)]
    exact kk _ _ _ (hf.put hd _) hi2
end rules
end Go.Acq
namespace Go.Acq
open Go Go.RowKit Go.Proofs Go.Shelf
theorem Z25 {α β : Type} {l : List α} {f g : α → List β} (h : ∀ x, x ∈ l → f x = g x) : l.flatMap f = l.flatMap g := by
 induction l with
 | nil => rfl
 | cons a l ih => rw [List.flatMap_cons, List.flatMap_cons, h a (.head _), ih (fun x hx => h x (.tail _ hx))]
def Vw (kp : Bool) (c : UInt8) : Str → Str → List Str
  | [], cur => [cur]
  | b :: l, cur => if b = c then (if kp then cur ++ [c] else cur) :: Vw kp c l [] else Vw kp c l (cur ++ [b])
theorem Z0u (kp : Bool) (c : UInt8) : ∀ (t cur : Str), (Lib.index t [c] = -1 ∧ Vw kp c t cur = [cur ++ t]) ∨ (∃ r : Nat, Lib.index t [c] = r ∧ r < t.length ∧ t.take (r + 1) = t.take r ++ [c] ∧ Vw kp c t cur = (cur ++ t.take (r + (if kp then 1 else 0))) :: Vw kp c (t.drop (r + 1)) [])
 | [], cur => .inl ⟨rfl, by rw [Vw, List.append_nil]⟩
 | b :: l, cur => by
  by_cases hb : b = c
  ·
   subst hb
   refine .inr ⟨0, by simp [Lib.index], by simp, by simp, ?_⟩
   rw [Vw, if_pos rfl]; cases kp <;> simp
  ·
   have h1 : ([c].isPrefixOf (b :: l)) = false := by simp [List.isPrefixOf, Ne.symm hb]
   rcases Z0u kp c l (cur ++ [b]) with ⟨h2, h3⟩ | ⟨r, h2, h3, h5, h4⟩
   ·
    refine .inl ⟨?_, by rw [Vw, if_neg hb, h3, List.append_assoc]; rfl⟩
    rw [Lib.index, h1, h2]; rfl
   ·
    refine .inr ⟨r + 1, ?_, by rw [List.length_cons]; omega, ?_, ?_⟩
    ·
     rw [Lib.index, h1, h2]
     have : ((r : Int) == -1) = false := beq_eq_false_iff_ne.2 (by omega)
     rw [this]; simp
    · rw [List.take_succ_cons, h5]; rfl
    ·
     rw [Vw, if_neg hb, h4, List.append_assoc]
     have e : r + 1 + (if kp = true then 1 else 0) = (r + (if kp = true then 1 else 0)) + 1 := by omega
     rw [e, List.take_succ_cons, List.drop_succ_cons]; rfl
theorem Z7d (kp : Bool) (c : UInt8) : ∀ (k : Nat) (s : Str), s.count c ≤ k → Lib.splitK [c] (if kp then 1 else 0) k s = Vw kp c s []
 | 0, s, h => by
  rcases Z0u kp c s [] with ⟨_, h3⟩ | ⟨r, h2, h3, h5, _⟩
  · rw [h3]; rfl
  ·
   exfalso
   have : c ∈ s := List.mem_of_mem_take (i := r + 1) (by rw [h5]; simp)
   have := List.count_pos_iff.2 this
   omega
 | k + 1, s, h => by
  rcases Z0u kp c s [] with ⟨h2, h3⟩ | ⟨r, h2, h3, h5, h4⟩
  · rw [h3, Lib.splitK, h2]; rfl
  ·
   have e : ((r : Int) == -1) = false := beq_eq_false_iff_ne.2 (by omega)
   rw [h4, Lib.splitK, h2, e]
   have hc : (s.drop (r + 1)).count c ≤ k := by
    have h6 : s.count c = (s.take (r + 1)).count c + (s.drop (r + 1)).count c := by rw [← List.count_append, List.take_append_drop]
    rw [h5, List.count_append, List.count_singleton_self] at h6
    omega
   simp only [Int.toNat_natCast, List.length_singleton, Bool.false_eq_true, if_false, List.nil_append]
   rw [Z7d kp c k _ hc]
def Xr (c : UInt8) (new : Str) (s : Str) : Str := s.flatMap fun b => if b = c then new else [b]
theorem Z99 (c : UInt8) (new : Str) : ∀ (k : Nat) (s : Str), s.count c ≤ k → Lib.replaceK [c] new k s = Xr c new s
 | k, s, h => by
  have none' : c ∉ s → Xr c new s = s := fun hc => by
   unfold Xr
   have : s.flatMap (fun b => if b = c then new else [b]) = s.flatMap (fun b => [b]) := by
    apply Z25
    intro b hb
    exact if_neg (fun (e : b = c) => hc (by rw [← e]; exact hb))
   rw [this]; simp
  rcases Z0u false c s [] with ⟨h2, h3⟩ | ⟨r, h2, h3, h5, h4⟩
  ·
   have hn : c ∉ s := fun hm => by
    have : ∀ l : Str, c ∈ l → Lib.index l [c] ≠ -1 := by
     intro l
     induction l with
     | nil => intro h; cases h
     | cons b l ih =>
      intro hm e
      by_cases hb : b = c
      · subst hb; simp [Lib.index] at e
      ·
       have h1 : ([c].isPrefixOf (b :: l)) = false := by simp [List.isPrefixOf, Ne.symm hb]
       have h2 := ih (by rcases List.mem_cons.1 hm with h | h; exact absurd h.symm hb; exact h)
       rw [Lib.index, h1] at e
       have : (Lib.index l [c] == -1) = false := beq_eq_false_iff_ne.2 h2
       rw [this] at e
       simp only [Bool.false_eq_true, if_false] at e
       have h9 : -1 ≤ Lib.index l [c] := by
        rcases Z0u false c l [] with ⟨g, _⟩ | ⟨q, g, _⟩ <;> rw [g] <;> omega
       omega
    exact this s hm h2
   rw [none' hn]
   cases k with
   | zero => rfl
   | succ k => rw [Lib.replaceK, h2]; rfl
  ·
   cases k with
   | zero =>
    exfalso
    have : c ∈ s := List.mem_of_mem_take (i := r + 1) (by rw [h5]; simp)
    have := List.count_pos_iff.2 this
    omega
   | succ k =>
    have e : ((r : Int) == -1) = false := beq_eq_false_iff_ne.2 (by omega)
    have h6 : s.count c = (s.take (r + 1)).count c + (s.drop (r + 1)).count c := by rw [← List.count_append, List.take_append_drop]
    rw [h5, List.count_append, List.count_singleton_self] at h6
    rw [Lib.replaceK, h2, e]
    simp only [Int.toNat_natCast, List.length_singleton, Bool.false_eq_true, if_false]
    rw [Z99 c new k _ (by omega)]
    have hs : s = s.take r ++ c :: s.drop (r + 1) := by
     conv => lhs; rw [← List.take_append_drop (r + 1) s, h5]
     simp
    have hr : c ∉ s.take r := fun hm => by
     have key : ∀ (l : Str) (r : Nat), Lib.index l [c] = r → c ∉ l.take r := by
      intro l
      induction l with
      | nil => intro r _ h; simp at h
      | cons b l ih =>
       intro r hr hm
       by_cases hb : b = c
       ·
        subst hb
        have h0 : Lib.index (b :: l) [b] = 0 := by simp [Lib.index]
        rw [h0] at hr
        obtain rfl : r = 0 := by omega
        simp at hm
       ·
        have h1 : ([c].isPrefixOf (b :: l)) = false := by simp [List.isPrefixOf, Ne.symm hb]
        rw [Lib.index, h1] at hr
        simp only [Bool.false_eq_true, if_false] at hr
        split at hr
        · omega
        ·
         cases r with
         | zero => simp at hm
         | succ r =>
          rw [List.take_succ_cons] at hm
          rcases List.mem_cons.1 hm with h | h
          · exact hb h.symm
          · exact ih r (by omega) h
     exact key s r h2 hm
    have hrr : Xr c new (s.take r) = s.take r := by
     unfold Xr
     have : (s.take r).flatMap (fun b => if b = c then new else [b]) = (s.take r).flatMap (fun b => [b]) := by
      apply Z25
      intro b hb
      exact if_neg (fun (e : b = c) => hr (by rw [← e]; exact hb))
     rw [this]; simp
    conv => rhs; rw [hs]
    unfold Xr at hrr ⊢
    rw [List.flatMap_append, hrr, List.flatMap_cons, if_pos rfl, List.append_assoc]
theorem Zaf (c : UInt8) (new s : Str) : Lib.replaceAll s [c] new = Xr c new s := by
 unfold Lib.replaceAll Lib.replace
 by_cases h : [c] = new
 ·
  subst h
  rw [if_pos (by simp)]
  unfold Xr
  have : s.flatMap (fun b => if b = c then [c] else [b]) = s.flatMap (fun b => [b]) := by
   apply Z25
   intro b _
   split
   · rename_i e; rw [e]
   · rfl
  rw [this]; simp
 ·
  rw [if_neg (by simpa using h)]
  have : Lib.replaceNum s [c] (-1) = s.count c := by unfold Lib.replaceNum; rw [if_pos (.inl (by decide)), Lib.count_one]
  rw [this]
  exact Z99 c new _ s (Nat.le_refl _)
section fns
variable {P : Program} {ρ : Ren}
theorem Zb1 (L : Lays.n138 P ρ) (s : Str) (c : UInt8) (w : World) : Fnc P (ρ.f 138) #[.string (bs s), .string (bs [c])] w [] (fun v N => v = .int .i64 (s.count c) ∧ N = []) := by
 refine Calls.mono (Any.strings_Count_one L (bs s) c w) ?_
 rintro e w' ⟨rfl, rfl⟩
 rw [Vy]
 exact ⟨_, _, ⟨rfl, rfl⟩, rfl, Inv.refl _⟩
theorem GK.max {w : World} {M : List Nat} (h : GK P w M) {g : Nat} (hg : P.globalNamed "internal/bytealg.MaxLen" = some g) : ∃ m, w.cell? ⟨g, 0, none⟩ = some (.int .i64 m) := by
 obtain ⟨m, e⟩ := h.mxl
 exact ⟨m, by simpa using World.var?_cell hg e 0⟩
theorem Z6i (L : Lays.n221 P ρ) (hgm : P.globalNamed "internal/bytealg.MaxLen" = some (ρ.g 1)) (hi9 : (P.info? (ρ.t 9)).map (fun i => (i.zero, i.size, i.bytes)) = some (some (.string ByteArray.empty), 1, 16)) (s : Str) (c : UInt8) (kp : Bool) (hs : s.length < 4294967281)
    (w : World) {M : List Nat} (hG : GK P w M) {r : List Str} (hr : Vw kp c s [] = r) :
    Fnc P (ρ.f 221) #[.string (bs s), .string (bs [c]), .int .i64 ((if kp then 1 else 0 : Nat) : Int), .int .i64 (-1)] w [] (fun v N => ∃ (ob : Option Nat) (n c : Nat) (j : List Value), v = .slice (sb ob) n c ∧ N = [(ob, .cells (arr Wj r j).toArray (ρ.t 9) (0, 0))] ∧ r.length = n ∧ n ≤ c ∧ j.length = (c - n) * 1 ∧ (ob = none → c = 0)) := by
  obtain ⟨m, hm⟩ := hG.max hgm
  have h1 : 1 ≤ (bs [c]).size := by rw [Xk]; exact Nat.le_refl _
  have hle := Lib.countB_le (bs [c]) h1 (bs s).size (bs s) (Nat.le_refl _)
  have hz := Xk s
  have hlen := Lib.splitB_all (bs [c]) h1 (if kp then 1 else 0) _ (bs s) rfl
  have cc := Any.strings_genSplit L hi9 (bs s) (bs [c]) (if kp then 1 else 0) (-1) (Lib.countB (bs s) (bs [c]) + 1) m w (by omega) hm h1 (by rw [Xk]; cases kp <;> simp) (by decide) (by decide) (by rw [if_pos (by decide)]; omega)
  rw [Nat.add_sub_cancel, hlen] at cc
  refine Calls.mono cc ?_
  rintro e w' ⟨rfl, rfl⟩
  have hd := Lib.splitB_data (bs [c]) (if kp then 1 else 0) (Lib.countB (bs s) (bs [c])) (bs s)
  have hcn : Lib.countB (bs s) (bs [c]) = s.count c := by
    show Lib.count _ _ = _
    rw [Vy, Vy, Lib.count_one]
  rw [Vy, Vy, hcn, Z7d kp c _ s (Nat.le_refl _), hr] at hd
  have hrl : r.length = Lib.countB (bs s) (bs [c]) + 1 := by rw [← hd, List.length_map, ← hcn]; exact hlen
  have hcells : Lib.cellsOf (Lib.splitB (bs [c]) (if kp then 1 else 0) (Lib.countB (bs s) (bs [c])) (bs s)) (Lib.countB (bs s) (bs [c]) + 1) = (arr Wj r []).toArray := by
    rw [← hlen, Lib.cellsOf_full]
    apply Array.ext'
    simp only [arr, List.append_nil]
    rw [← hd, hcn]
    rw [List.flatMap_map, List.map_eq_flatMap]
    apply Z25
    intro x _
    simp [Wj, bs_of]
  rw [hcells, ← hrl]
  refine ⟨_, _, ⟨some w.heap.size, r.length, r.length, [], rfl, rfl, rfl, Nat.le_refl _, by simp, fun e => by cases e⟩, rfl, ?_⟩
  exact (Inv.refl w).alloc _
theorem Zdn (L : Lays.n155 P ρ) (X : Builder.Extra P ρ) (hgm : P.globalNamed "internal/bytealg.MaxLen" = some (ρ.g 1)) (s : Str) (c : UInt8) (new : Str) (hs : s.length < 4294967281) (hlen : s.length + s.count c * new.length ≤ 140737488355328)
    (w : World) {M : List Nat} (hG : GK P w M) : Fnc P (ρ.f 155) #[.string (bs s), .string (bs [c]), .string (bs new)] w [] (fun v N => v = .string (bs (Xr c new s)) ∧ N = []) := by
  obtain ⟨m, hm⟩ := hG.max hgm
  have hcn : Lib.countB (bs s) (bs [c]) = s.count c := by
    show Lib.count _ _ = _
    rw [Vy, Vy, Lib.count_one]
  refine Calls.mono (Any.strings_ReplaceAll L X (bs s) (bs [c]) (bs new) m w (by rw [Xk]; exact hs) hm (by rw [Xk]; exact Nat.le_refl _) (by rw [hcn, Xk, Xk]; exact hlen)) ?_
  rintro e w' ⟨rfl, hb⟩
  rw [Vy, Vy, Vy, Zaf]
  exact ⟨_, _, ⟨rfl, rfl⟩, rfl, Gc hb⟩
theorem Fnc.join (L : Lays.n156 P ρ) (X : Builder.Extra P ρ) {base : Option Addr} {n c : Nat} {xs : List Str} (sep : Str) (w : World) {M : List Nat} (h : RS w M Wj 1 base n c xs) (hN : xs.length ≤ 140737488355328)
    (hlen : (Lib.join xs sep).length ≤ 140737488355328) : Fnc P (ρ.f 156) #[.slice base n c, .string (bs sep)] w [] (fun v N => v = .string (bs (Lib.join xs sep)) ∧ N = []) := by
  have hl := h.ro.len
  have hmap : (xs.map bs).map (·.data.toList) = xs := by
    rw [List.map_map]
    conv => rhs; rw [← List.map_id xs]
    apply List.map_congr_left
    intro x _
    exact Vy x
  cases xs with
  | nil =>
    simp only [List.length_nil] at hl
    subst hl
    refine Calls.mono (Any.strings_Join_none L X base c (bs sep) w) ?_
    rintro e w' ⟨rfl, rfl⟩
    exact ⟨_, _, ⟨rfl, rfl⟩, rfl, Inv.refl _⟩
  | cons x xs =>
    cases base with
    | none => have := h.ro.nil rfl; rw [← hl] at this; simp at this
    | some ad =>
      have hcell : ∀ (j : Nat) y, (x :: xs)[j]? = some y → w.cell? (ad.add j) = some (.string (bs y)) := fun j y hj => by
        have hlt := (List.getElem?_eq_some_iff.1 hj).1
        have := h.ro.cell j 0 hlt (by omega) y hj
        simpa [ea, Wj] using this
      obtain ⟨bk, o, spot⟩ := ad
      have h0 := hcell 0 x rfl
      have hspot : spot = none := by simpa [Addr.add] using World.cell?_spot h0
      subst hspot
      have hbk : bk < w.heap.size := by
        have := World.block_lt_of_cell? _ _ h0
        simpa [Addr.add] using this
      have cc := Any.strings_Join L X bk o c ((x :: xs).map bs) (bs sep) w (fun j y hj => by
        rw [List.getElem?_map] at hj
        obtain ⟨z, hz, rfl⟩ := Option.map_eq_some_iff.1 hj
        have := hcell j z hz
        by_cases h0 : j = 0
        · subst h0; simpa [Addr.add] using this
        · simpa [Addr.add, h0] using this) hbk (by rw [List.length_map]; exact hN) (by rw [List.length_map, hl]; exact h.cap) (by rw [hmap, Vy]; exact hlen)
      rw [List.length_map, hl, hmap, Vy] at cc
      refine Calls.mono cc ?_
      rintro e w' ⟨rfl, hb⟩
      exact ⟨_, _, ⟨rfl, rfl⟩, rfl, Gc hb⟩
end fns
end Go.Acq
namespace Go.Acq
open Go
structure Net where
  N : Int
  S : Int
  T : Int
  Arcs : List Arc
  deriving DecidableEq
instance : Inhabited Net := ⟨⟨default, default, default, default⟩⟩
structure Csr where
  N : Int
  S : Int
  T : Int
  First : List Int
  Head : List Int
  Rev : List Int
  Cap : List Int
  Arc : List Int
  Back : List Bool
  deriving DecidableEq
instance : Inhabited Csr := ⟨⟨default, default, default, default, default, default, default, default, default⟩⟩
def Jr (x0 n1 : Int) : Option (Int) :=
  if n1 < 1 then
  (some 0)
  else
  gd (n1 ≠ 0) <|
  gd (i64ok ((x0.tmod n1) + n1)) <|
  gd (n1 ≠ 0) <|
  some (((x0.tmod n1) + n1).tmod n1)
def Lw (n0 : Net) (a1 r6 : Int) (a0 : List Arc) (a2 a3 : Int) : Option ((List Arc × Int) ⊕ (List Arc)) :=
  Option.bind (Jr (((n0.Arcs.take (min (n0.Arcs.length : Int) a1).toNat).getD a2.toNat default).fr) (2 + r6)) fun a4 =>
  Option.bind (Jr (((n0.Arcs.take (min (n0.Arcs.length : Int) a1).toNat).getD a2.toNat default).to) (2 + r6)) fun a5 =>
  gd (apok (a0 ++ ([(Arc.mk a4 a5 (a3.tmod 1125899906842624))])).length 24) <|
  gd (i64ok (a2 + 1)) <|
  some (.inl ((a0 ++ ([(Arc.mk a4 a5 (a3.tmod 1125899906842624))])), (a2 + 1)))
def Z0d (n0 : Net) (a0 r6 : Int) (a1 : List Arc) (a2 : Int) : Option ((List Arc × Int) ⊕ (List Arc)) :=
  if a2 < ((n0.Arcs.take (min (n0.Arcs.length : Int) a0).toNat).length : Int) then
  (gd (inb a2 (n0.Arcs.take (min (n0.Arcs.length : Int) a0).toNat).length) <|
  if (((n0.Arcs.take (min (n0.Arcs.length : Int) a0).toNat).getD a2.toNat default).cap) < 0 then
  (gd (i64ok ((((n0.Arcs.take (min (n0.Arcs.length : Int) a0).toNat).getD a2.toNat default).cap) + 1)) <|
  gd (i64ok (-((((n0.Arcs.take (min (n0.Arcs.length : Int) a0).toNat).getD a2.toNat default).cap) + 1))) <|
  Lw n0 a0 r6 a1 a2 (-((((n0.Arcs.take (min (n0.Arcs.length : Int) a0).toNat).getD a2.toNat default).cap) + 1)))
  else
  Lw n0 a0 r6 a1 a2 (((n0.Arcs.take (min (n0.Arcs.length : Int) a0).toNat).getD a2.toNat default).cap))
  else
  some (.inr a1)
def Z2l (r6 a1 a2 : Int) (a0 : List Arc) : Option (Net) :=
  some (Net.mk (2 + r6) a1 a2 a0)
def Rc (n0 : Net) (a0 r6 a1 a2 : Int) : Option (Net) :=
  gd (0 ≤ (min (n0.Arcs.length : Int) a0) ∧ (min (n0.Arcs.length : Int) a0) ≤ (n0.Arcs.length : Int)) <|
  Option.bind (Xa (fun s => Z0d n0 a0 r6 s.1 s.2) Ys ([], 0)) fun p2_0_0 => Z2l r6 a1 a2 p2_0_0
def Z1e (n0 : Net) (a0 a1 : Int) : Option (Net) :=
  gd (i64ok (a0 - 1)) <|
  Option.bind (Jr n0.N (a0 - 1)) fun r6 =>
  gd (i64ok (2 + r6)) <|
  Option.bind (Jr n0.S (2 + r6)) fun a2 =>
  Option.bind (Jr n0.T (2 + r6)) fun a3 =>
  if a2 = a3 then
  (gd (i64ok (a2 + 1)) <|
  gd ((2 + r6) ≠ 0) <|
  Rc n0 a1 r6 a2 ((a2 + 1).tmod (2 + r6)))
  else
  Rc n0 a1 r6 a2 a3
def Lx (n0 : Net) (a0 : List Int) (x8 a1 : Int) : Option ((List Int × Int) ⊕ (List Int)) :=
  gd (inb x8 a0.length) <|
  gd (i64ok (x8 + 1)) <|
  some (.inl ((a0.set x8.toNat (min a1 ((n0.Arcs.getD x8.toNat default).cap))), (x8 + 1)))
def Rn (n0 : Net) (a0 : List Int) (x8 a1 : Int) : Option ((List Int × Int) ⊕ (List Int)) :=
  if ((n0.Arcs.getD x8.toNat default).cap) < 4611686018427387904 then
  (gd (i64ok (((n0.Arcs.getD x8.toNat default).cap) + 1)) <|
  gd ((((n0.Arcs.getD x8.toNat default).cap) + 1) ≠ 0) <|
  Lx n0 a0 x8 (a1.tmod (((n0.Arcs.getD x8.toNat default).cap) + 1)))
  else
  Lx n0 a0 x8 a1
def Z0v (n0 : Net) (l1 a0 : List Int) (x8 : Int) : Option ((List Int × Int) ⊕ (List Int)) :=
  if x8 < (n0.Arcs.length : Int) then
  (gd (inb x8 n0.Arcs.length) <|
  if (l1.length : Int) ≤ x8 then
  (gd (i64ok (x8 + 1)) <|
  some (.inl (a0, (x8 + 1))))
  else
  if ((n0.Arcs.getD x8.toNat default).fr) = ((n0.Arcs.getD x8.toNat default).to) then
  (gd (i64ok (x8 + 1)) <|
  some (.inl (a0, (x8 + 1))))
  else
  gd (inb x8 l1.length) <|
  if (l1.getD x8.toNat 0) < 0 then
  (gd (i64ok ((l1.getD x8.toNat 0) + 1)) <|
  gd (i64ok (-((l1.getD x8.toNat 0) + 1))) <|
  Rn n0 a0 x8 (-((l1.getD x8.toNat 0) + 1)))
  else
  Rn n0 a0 x8 (l1.getD x8.toNat 0))
  else
  some (.inr a0)
def Z3l (a0 : List Int) : Option (List Int) :=
  some a0
def Z0c (n0 : Net) (l1 : List Int) : Option (List Int) :=
  gd (mkok (n0.Arcs.length : Int)) <|
  Option.bind (Xa (fun s => Z0v n0 l1 s.1 s.2) Ys ((List.replicate ((n0.Arcs.length : Int).toNat) (0 : Int)), 0)) fun p1_0_0 => Z3l p1_0_0
def Z3c  : Option (Unit) :=
  some ()
def Z3k  : Option (Unit) :=
  some ()
def Z3i  : Option (Unit) :=
  Option.bind Z3c fun _ =>
  Option.bind Z3k fun _ =>
  some ()
def Z32 (n0 : Net) : Option (Bool) :=
  if 2 ≤ n0.N then
  (some (decide (n0.N ≤ 4096)))
  else
  some false
def Z2i (n0 : Net) : Option (Bool) :=
  some (decide ((n0.Arcs.length : Int) ≤ 16384))
def Gd (n0 : Net) (v1 : Int) : Option (Bool) :=
  if 0 ≤ v1 then
  (some (decide (v1 < n0.N)))
  else
  some false
def Z20 (n0 : Net) : Option (Bool) :=
  Option.bind (Gd n0 n0.S) fun r3 =>
  if r3 = true then
  (Option.bind (Gd n0 n0.T) fun r6 =>
  if r6 = true then
  (some (decide (n0.S ≠ n0.T)))
  else
  some false)
  else
  some false
def Ry (n0 : Net) (a1 : Arc) : Option (Bool) :=
  Option.bind (Gd n0 a1.fr) fun r5 =>
  if r5 = true then
  (Option.bind (Gd n0 a1.to) fun r8 =>
  some r8)
  else
  some false
def Z27 (a0 : Arc) (c2 : Net) : Option (Bool) :=
  Option.bind (Ry c2 a0) fun r3 =>
  some (!r3)
def Z01 (s0 : List Arc) (a0 : Net) (x1 : Int) : Option ((Int) ⊕ (Int ⊕ Unit)) :=
  if x1 < (s0.length : Int) then
  (gd (inb x1 s0.length) <|
  Option.bind (Z27 (s0.getD x1.toNat default) a0) fun r4 =>
  if r4 = true then
  (some (.inr (.inl x1)))
  else
  gd (i64ok (x1 + 1)) <|
  some (.inl (x1 + 1)))
  else
  some (.inr (.inr ()))
def Z45  : Option (Int) :=
  some (-1)
def Z3d (s0 : List Arc) (a0 : Net) : Option (Int) :=
  Option.bind (Xa (fun s => Z01 s0 a0 s) Ys 0) fun o => match o with | .inl p1_0_0 => (some p1_0_0) | .inr () => Z45
def Z1w (s0 : List Arc) (a0 : Net) : Option (Bool) :=
  Option.bind (Z3d s0 a0) fun r1 =>
  some (decide (0 ≤ r1))
def Rw (n0 : Net) : Option (Bool) :=
  Option.bind (Z1w n0.Arcs n0) fun r3 =>
  some (!r3)
def Z3p (n0 : Net) (a1 : Arc) : Option (Bool) :=
  some (decide (0 ≤ a1.cap))
def Z2y (a0 : Arc) (c2 : Net) : Option (Bool) :=
  Option.bind (Z3p c2 a0) fun r3 =>
  some (!r3)
def Z09 (s0 : List Arc) (a0 : Net) (x1 : Int) : Option ((Int) ⊕ (Int ⊕ Unit)) :=
  if x1 < (s0.length : Int) then
  (gd (inb x1 s0.length) <|
  Option.bind (Z2y (s0.getD x1.toNat default) a0) fun r4 =>
  if r4 = true then
  (some (.inr (.inl x1)))
  else
  gd (i64ok (x1 + 1)) <|
  some (.inl (x1 + 1)))
  else
  some (.inr (.inr ()))
def Z5j  : Option (Int) :=
  some (-1)
def Z3b (s0 : List Arc) (a0 : Net) : Option (Int) :=
  Option.bind (Xa (fun s => Z09 s0 a0 s) Ys 0) fun o => match o with | .inl p1_0_0 => (some p1_0_0) | .inr () => Z5j
def Z1z (s0 : List Arc) (a0 : Net) : Option (Bool) :=
  Option.bind (Z3b s0 a0) fun r1 =>
  some (decide (0 ≤ r1))
def Z05 (n0 : Net) : Option (Bool) :=
  Option.bind (Z1z n0.Arcs n0) fun r3 =>
  some (!r3)
def Z1d (n0 : Net) (a0 x4 : Int) (a1 : Bool) : Option ((Int × Int) ⊕ ((Int × Bool) ⊕ Int)) :=
  if a1 = true then
  (some (.inr (.inl (0, false))))
  else
  gd (i64ok (a0 - ((n0.Arcs.getD x4.toNat default).cap))) <|
  gd (i64ok (x4 + 1)) <|
  some (.inl ((a0 - ((n0.Arcs.getD x4.toNat default).cap)), (x4 + 1)))
def Z00 (n0 : Net) (a0 x4 : Int) : Option ((Int × Int) ⊕ ((Int × Bool) ⊕ Int)) :=
  if x4 < (n0.Arcs.length : Int) then
  (gd (inb x4 n0.Arcs.length) <|
  if ((n0.Arcs.getD x4.toNat default).cap) < 0 then
  (Z1d n0 a0 x4 true)
  else
  Z1d n0 a0 x4 (decide (a0 < ((n0.Arcs.getD x4.toNat default).cap))))
  else
  some (.inr (.inr a0))
def Z22 (a0 : Int) : Option (Int × Bool) :=
  gd (i64ok (4611686018427387904 - a0)) <|
  some ((4611686018427387904 - a0), true)
def Z0b (n0 : Net) : Option (Int × Bool) :=
  Option.bind (Xa (fun s => Z00 n0 s.1 s.2) Ys (4611686018427387904, 0)) fun o => match o with | .inl (p1_0_0, p1_0_1) => (some (p1_0_0, p1_0_1)) | .inr p1_1_0 => (Z22 p1_1_0)
def Z1v (n0 : Net) : Option (Bool) :=
  Option.bind (Z0b n0) fun (r3, r4) =>
  some r4
def Z30  : Option (Int) :=
  some 0
def Jx (n0 : Net) : Option (Int) :=
  Option.bind Z3i fun _ =>
  Option.bind (Z32 n0) fun a0 =>
  if (!a0) = true then
  (some 10)
  else
  Option.bind (Z2i n0) fun a1 =>
  if (!a1) = true then
  (some 11)
  else
  Option.bind (Z20 n0) fun a2 =>
  if (!a2) = true then
  (some 12)
  else
  Option.bind (Rw n0) fun a3 =>
  if (!a3) = true then
  (some 13)
  else
  Option.bind (Z05 n0) fun a4 =>
  if (!a4) = true then
  (some 14)
  else
  Option.bind (Z1v n0) fun a5 =>
  if (!a5) = true then
  (some 15)
  else
  Z30
def Z0z (a0 b1 : List Int) (x2 : Int) : Option ((Int) ⊕ (Bool ⊕ Unit)) :=
  if x2 < (a0.length : Int) then
  (gd (inb x2 a0.length) <|
  gd (inb x2 b1.length) <|
  if (a0.getD x2.toNat 0) ≠ (b1.getD x2.toNat 0) then
  (some (.inr (.inl false)))
  else
  gd (i64ok (x2 + 1)) <|
  some (.inl (x2 + 1)))
  else
  some (.inr (.inr ()))
def Z5l  : Option (Bool) :=
  some true
def Le (a0 b1 : List Int) : Option (Bool) :=
  if (a0.length : Int) ≠ (b1.length : Int) then
  (some false)
  else
  Option.bind (Xa (fun s => Z0z a0 b1 s) Ys 0) fun o => match o with | .inl p1_0_0 => (some p1_0_0) | .inr () => Z5l
def Z0m (a0 b1 : List Bool) (x2 : Int) : Option ((Int) ⊕ (Bool ⊕ Unit)) :=
  if x2 < (a0.length : Int) then
  (gd (inb x2 a0.length) <|
  gd (inb x2 b1.length) <|
  if (!((a0.getD x2.toNat false) == (b1.getD x2.toNat false))) = true then
  (some (.inr (.inl false)))
  else
  gd (i64ok (x2 + 1)) <|
  some (.inl (x2 + 1)))
  else
  some (.inr (.inr ()))
def Z4d  : Option (Bool) :=
  some true
def Rh (a0 b1 : List Bool) : Option (Bool) :=
  if (a0.length : Int) ≠ (b1.length : Int) then
  (some false)
  else
  Option.bind (Xa (fun s => Z0m a0 b1 s) Ys 0) fun o => match o with | .inl p1_0_0 => (some p1_0_0) | .inr () => Z4d
end Go.Acq
namespace Go.Acq
open Go
structure Hop where
  Arc : Int
  Back : Bool
  deriving DecidableEq
instance : Inhabited Hop := ⟨⟨default, default⟩⟩
def Z0p (n0 : Net) (f1 : List Int) (x7 : Int) : Option ((Int) ⊕ (Bool ⊕ Unit)) :=
  if x7 < (n0.Arcs.length : Int) then
  (gd (inb x7 n0.Arcs.length) <|
  gd (inb x7 f1.length) <|
  if (f1.getD x7.toNat 0) < 0 then
  (some (.inr (.inl false)))
  else
  gd (inb x7 f1.length) <|
  if ((n0.Arcs.getD x7.toNat default).cap) < (f1.getD x7.toNat 0) then
  (some (.inr (.inl false)))
  else
  gd (i64ok (x7 + 1)) <|
  some (.inl (x7 + 1)))
  else
  some (.inr (.inr ()))
def Z2r  : Option (Bool) :=
  some true
def Z0r (n0 : Net) (f1 : List Int) : Option (Bool) :=
  Option.bind (Jx n0) fun r3 =>
  if r3 ≠ 0 then
  (some false)
  else
  if (f1.length : Int) ≠ (n0.Arcs.length : Int) then
  (some false)
  else
  Option.bind (Xa (fun s => Z0p n0 f1 s) Ys 0) fun o => match o with | .inl p1_0_0 => (some p1_0_0) | .inr () => Z2r
def Z19 (n0 : Net) (f1 a1 : List Int) (a0 : Int) : Option ((List Int × Int) ⊕ (List Int)) :=
  if a0 < (n0.Arcs.length : Int) then
  (gd (inb a0 n0.Arcs.length) <|
  gd (inb ((n0.Arcs.getD a0.toNat default).fr) a1.length) <|
  gd (inb a0 f1.length) <|
  gd (i64ok ((a1.getD ((n0.Arcs.getD a0.toNat default).fr).toNat 0) - (f1.getD a0.toNat 0))) <|
  gd (inb ((n0.Arcs.getD a0.toNat default).fr) a1.length) <|
  gd (inb ((n0.Arcs.getD a0.toNat default).to) (a1.set ((n0.Arcs.getD a0.toNat default).fr).toNat ((a1.getD ((n0.Arcs.getD a0.toNat default).fr).toNat 0) - (f1.getD a0.toNat 0))).length) <|
  gd (inb a0 f1.length) <|
  gd (i64ok (((a1.set ((n0.Arcs.getD a0.toNat default).fr).toNat ((a1.getD ((n0.Arcs.getD a0.toNat default).fr).toNat 0) - (f1.getD a0.toNat 0))).getD ((n0.Arcs.getD a0.toNat default).to).toNat 0) + (f1.getD a0.toNat 0))) <|
  gd (inb ((n0.Arcs.getD a0.toNat default).to) (a1.set ((n0.Arcs.getD a0.toNat default).fr).toNat ((a1.getD ((n0.Arcs.getD a0.toNat default).fr).toNat 0) - (f1.getD a0.toNat 0))).length) <|
  gd (i64ok (a0 + 1)) <|
  some (.inl (((a1.set ((n0.Arcs.getD a0.toNat default).fr).toNat ((a1.getD ((n0.Arcs.getD a0.toNat default).fr).toNat 0) - (f1.getD a0.toNat 0))).set ((n0.Arcs.getD a0.toNat default).to).toNat (((a1.set ((n0.Arcs.getD a0.toNat default).fr).toNat ((a1.getD ((n0.Arcs.getD a0.toNat default).fr).toNat 0) - (f1.getD a0.toNat 0))).getD ((n0.Arcs.getD a0.toNat default).to).toNat 0) + (f1.getD a0.toNat 0))), (a0 + 1))))
  else
  some (.inr a1)
def Z3m (a0 : List Int) : Option (List Int × Int) :=
  some (a0, 0)
def Z14 (n0 : Net) (f1 : List Int) : Option (List Int × Int) :=
  Option.bind (Z0r n0 f1) fun r3 =>
  if (!r3) = true then
  (some ([], 20))
  else
  gd (mkok n0.N) <|
  Option.bind (Xa (fun s => Z19 n0 f1 s.1 s.2) Ys ((List.replicate n0.N.toNat (0 : Int)), 0)) fun p1_0_0 => Z3m p1_0_0
end Go.Acq
namespace Go.Acq
open Go
end Go.Acq
namespace Go.Acq
open Go
structure BytesBuffer where
  buf : List Int
  off : Int
  lastRead : Int
  deriving DecidableEq
instance : Inhabited BytesBuffer := ⟨⟨default, default, default⟩⟩
def Rb (c0 : Int) : Option (Bool) :=
  if c0 = 9 then
  (some true)
  else
  if c0 = 13 then
  (some true)
  else
  some (decide (c0 = 32))
def Wb (x : Nat) : Bool := decide (Rb (x : Int) = some true)
def Z31 (s0 : Str) : Option (List Str) :=
  gd (s0.length ≤ 4294967296) <| some (Z1q Wb s0)
def Z06 (a0 : List Int) : Option (List Str) :=
  Option.bind (Z31 (bu a0)) fun r1 =>
  some r1
def Rg (c0 : Int) : Option (Bool) :=
  if c0 < 48 then
  (some true)
  else
  some (decide (57 < c0))
def Ng (x : Nat) : Bool := decide (Rg (x : Int) = some true)
def Z2v (s0 : Str) : Option (Bool) :=
  some (anyT Ng s0)
def Z2f (s0 : Str) (i1 i2 : Int) : Option (Int × Bool) :=
  gd (s0.length ≤ 281474976710656 ∧ i1 = 10 ∧ i2 = 64) <| some (Z0e s0)
def Re (s0 : Str) (x4 : Bool) : Option (Int × Bool) :=
  if x4 = true then
  (some (0, false))
  else
  Option.bind (Z2f s0 10 64) fun (r6, r7) =>
  if (!r7) = true then
  (some (0, false))
  else
  some (r6, true)
def Z17 (s0 : Str) : Option (Int × Bool) :=
  if 19 < (s0.length : Int) then
  (Re s0 true)
  else
  Option.bind (Z2v s0) fun r2 =>
  Re s0 r2
def Z07 (i0 i1 : Int) : Option (Str) :=
  gd (i64ok i0 ∧ i1 = 10) <| some (Yj i0)
def Ns (n0 : Int) : Option (Str) :=
  Option.bind (Z07 n0 10) fun r1 =>
  some r1
def Nl (i0 : Int) : Option (Str) :=
  gd (i64ok i0) <| some (Yj i0)
def Z13 (a0 : Arc) : Option (Str) :=
  gd (i64ok (a0.fr + 1)) <|
  Option.bind (Nl (a0.fr + 1)) fun r4 =>
  gd (slok (([102, 32] : Str) ++ r4).length) <|
  gd (slok ((([102, 32] : Str) ++ r4) ++ ([32] : Str)).length) <|
  gd (i64ok (a0.to + 1)) <|
  Option.bind (Nl (a0.to + 1)) fun r9 =>
  gd (slok (((([102, 32] : Str) ++ r4) ++ ([32] : Str)) ++ r9).length) <|
  gd (slok ((((([102, 32] : Str) ++ r4) ++ ([32] : Str)) ++ r9) ++ ([32] : Str)).length) <|
  some ((((([102, 32] : Str) ++ r4) ++ ([32] : Str)) ++ r9) ++ ([32] : Str))
def Gi (s0 : Str) (a1 a0 : Int) : Option (Int × Bool) :=
  Option.bind (Z17 s0) fun (r1, r2) =>
  if r2 = true then
  (if a1 ≤ r1 then
  (some (r1, (decide (r1 ≤ a0))))
  else
  some (r1, false))
  else
  some (r1, false)
def Lt (a0 : Arc) (w1 : List Str) (x5 : Bool) : Option (Int × Bool) :=
  if x5 = true then
  (some (0, false))
  else
  gd (inb 1 w1.length) <|
  gd (i64ok (a0.fr + 1)) <|
  gd (i64ok (a0.fr + 1)) <|
  Option.bind (Gi (w1.getD (1 : Int).toNat ([] : Str)) (a0.fr + 1) (a0.fr + 1)) fun (a5, a2) =>
  gd (inb 2 w1.length) <|
  gd (i64ok (a0.to + 1)) <|
  gd (i64ok (a0.to + 1)) <|
  Option.bind (Gi (w1.getD (2 : Int).toNat ([] : Str)) (a0.to + 1) (a0.to + 1)) fun (a6, a3) =>
  gd (inb 3 w1.length) <|
  Option.bind (Gi (w1.getD (3 : Int).toNat ([] : Str)) 0 a0.cap) fun (a1, a4) =>
  if a4 = true then
  (if a2 = true then
  (some (a1, a3))
  else
  some (a1, false))
  else
  some (a1, false)
def Z1p (a0 : Arc) (w1 : List Str) : Option (Int × Bool) :=
  if (w1.length : Int) ≠ 4 then
  (Lt a0 w1 true)
  else
  gd (inb 0 w1.length) <|
  Lt a0 w1 (decide (¬((w1.getD (0 : Int).toNat ([] : Str)) = ([102] : Str))))
def Lq (n0 : Net) (f1 : List Int) : Option (Str × Int) :=
  Option.bind (Z14 n0 f1) fun (r3, r4) =>
  if r4 ≠ 0 then
  (some (([] : Str), r4))
  else
  gd (inb n0.T r3.length) <|
  Option.bind (Ns (r3.getD n0.T.toNat 0)) fun a0 =>
  some (a0, 0)
def Rz (n0 : Net) (f1 a0 : List Int) (a1 : Int) : Option ((List Int × Int) ⊕ (List Int)) :=
  if a1 < (n0.Arcs.length : Int) then
  (gd (inb a1 n0.Arcs.length) <|
  Option.bind (Z13 (n0.Arcs.getD a1.toNat default)) fun a2 =>
  gd (inb a1 f1.length) <|
  Option.bind (Ns (f1.getD a1.toNat 0)) fun a3 =>
  gd (slok (a2 ++ a3).length) <|
  gd (slok ((a2 ++ a3) ++ ([10] : Str)).length) <|
  gd ((a0 ++ ub ((a2 ++ a3) ++ ([10] : Str))).length ≤ 140737488355328) <|
  gd (i64ok (a1 + 1)) <|
  some (.inl ((a0 ++ ub ((a2 ++ a3) ++ ([10] : Str))), (a1 + 1))))
  else
  some (.inr a0)
def Z37 (a0 : List Int) : Option (List Int × Int) :=
  some (a0, 0)
def Nb (n0 : Net) (f1 : List Int) : Option (List Int × Int) :=
  Option.bind (Jx n0) fun r3 =>
  if r3 ≠ 0 then
  (some ([], r3))
  else
  Option.bind (Lq n0 f1) fun (r6, r7) =>
  if r7 ≠ 0 then
  (some ([], r7))
  else
  gd (slok (([115, 32] : Str) ++ r6).length) <|
  gd (slok ((([115, 32] : Str) ++ r6) ++ ([10] : Str)).length) <|
  gd ((([] : List Int) ++ ub ((([115, 32] : Str) ++ r6) ++ ([10] : Str))).length ≤ 140737488355328) <|
  Option.bind (Xa (fun s => Rz n0 f1 s.1 s.2) Ys ((([] : List Int) ++ ub ((([115, 32] : Str) ++ r6) ++ ([10] : Str))), 0)) fun p1_0_0 => Z37 p1_0_0
def Z12 (s1 : List Bool) (a0 : List Int) (a1 : Int) : Option ((List Int × Int) ⊕ (List Int)) :=
  if a1 < (s1.length : Int) then
  (gd (inb a1 s1.length) <|
  if (s1.getD a1.toNat false) = true then
  (gd (i64ok (a1 + 1)) <|
  Option.bind (Nl (a1 + 1)) fun a2 =>
  gd (slok (([107, 32] : Str) ++ a2).length) <|
  gd (slok ((([107, 32] : Str) ++ a2) ++ ([10] : Str)).length) <|
  gd ((a0 ++ ub ((([107, 32] : Str) ++ a2) ++ ([10] : Str))).length ≤ 140737488355328) <|
  gd (i64ok (a1 + 1)) <|
  some (.inl ((a0 ++ ub ((([107, 32] : Str) ++ a2) ++ ([10] : Str))), (a1 + 1))))
  else
  gd (i64ok (a1 + 1)) <|
  some (.inl (a0, (a1 + 1))))
  else
  some (.inr a0)
def Z21 (a0 : List Int) : Option (List Int × Int) :=
  some (a0, 0)
def Ls (n0 : Net) (s1 : List Bool) : Option (List Int × Int) :=
  Option.bind (Jx n0) fun r3 =>
  if r3 ≠ 0 then
  (some ([], r3))
  else
  if (s1.length : Int) ≠ n0.N then
  (some ([], 60))
  else
  Option.bind (Xa (fun s => Z12 s1 s.1 s.2) Ys ([], 0)) fun p1_0_0 => Z21 p1_0_0
def Rd (b0 : List Int) : Option (Unit) :=
  some ()
def Z3f (s0 a1 : List Int) (a0 : Int) : Option (Unit) :=
  some ()
def Z2h (s0 a0 : List Int) : Option (Unit) :=
  Option.bind (Z3f s0 a0 0) fun _ =>
  some ()
def Z2u (b0 : List Int) (c1 : Int) : Option (Int) :=
  some (idxT b0 c1)
def Z16 (s0 a0 : List Int) : Option (Int) :=
  if (a0.length : Int) = 0 then
  (none)
  else
  if (a0.length : Int) = 1 then
  (gd (inb 0 a0.length) <|
  Option.bind (Z2u s0 (a0.getD (0 : Int).toNat 0)) fun r4 =>
  some r4)
  else
  none
def Jv {S_ X_ : Type} (a3 : S_ → List Int → Option (S_ ⊕ X_)) (c1 : List Int) (c3 : Int) (c4 : List Int) (a2 : S_ ⊕ X_) : Option ((List Int × (S_ ⊕ X_)) ⊕ ((List Int × (S_ ⊕ X_)) ⊕ (S_ ⊕ X_))) :=
  Option.bind (Z16 c4 c1) fun a0 =>
  if a0 < 0 then
  (some (.inr (.inl (c4, a2))))
  else
  gd (i64ok (a0 + c3)) <|
  gd (0 ≤ (a0 + c3) ∧ (a0 + c3) ≤ (c4.length : Int)) <|
  gd (0 ≤ ((c4.take (a0 + c3).toNat).length : Int) ∧ ((c4.take (a0 + c3).toNat).length : Int) ≤ ((c4.take (a0 + c3).toNat).length : Int)) <|
  Option.bind (Gj a3 a2 ((c4.take (a0 + c3).toNat).take ((c4.take (a0 + c3).toNat).length : Int).toNat)) fun a1 =>
  if (!a1.isLeft) = true then
  (some (.inr (.inr a1)))
  else
  gd (i64ok (a0 + (c1.length : Int))) <|
  gd (0 ≤ (a0 + (c1.length : Int)) ∧ (a0 + (c1.length : Int)) ≤ (c4.length : Int)) <|
  some (.inl ((c4.drop (a0 + (c1.length : Int)).toNat), a1))
def Z02 {S_ X_ : Type} (a3 : S_ → List Int → Option (S_ ⊕ X_)) (a0 : List Int) (a1 : S_ ⊕ X_) : Option ((S_ ⊕ X_)) :=
  gd (0 ≤ (a0.length : Int) ∧ (a0.length : Int) ≤ (a0.length : Int)) <|
  Option.bind (Gj a3 a1 (a0.take (a0.length : Int).toNat)) fun a2 =>
  some a2
def Z24 {S_ X_ : Type} (a0 : S_ → List Int → Option (S_ ⊕ X_)) (c1 : List Int) (c2 : List Int) (c3 : Int) (a1 : S_ ⊕ X_) : Option ((S_ ⊕ X_)) :=
  Option.bind (Xa (fun s => Jv a0 c1 c3 s.1 s.2) Ys (c2, a1)) fun o => match o with | .inl (p2_0_0, p2_0_1) => (Z02 a0 p2_0_0 p2_0_1) | .inr p2_1_0 => (some p2_1_0)
def Z0o {S_ X_ : Type} (a0 : S_ → List Int → Option (S_ ⊕ X_)) (c1 : List Int) (c2 : List Int) (c3 : Int) (a1 : S_ ⊕ X_) : Option ((S_ ⊕ X_)) :=
  if (c1.length : Int) = 0 then
  (none)
  else
  Z24 a0 c1 c2 c3 a1
def Gb {S_ X_ : Type} (a4 : S_ → List Str → Option (S_ ⊕ X_)) (a0 : S_ ⊕ X_) (a3 : List Int) : Option (((S_ ⊕ X_)) ⊕ ((S_ ⊕ X_))) :=
  Option.bind (Z06 a3) fun a2 =>
  if 0 < (a2.length : Int) then
  (gd (inb 0 a2.length) <|
  gd (inb 0 (a2.getD (0 : Int).toNat ([] : Str)).length) <|
  if (((a2.getD (0 : Int).toNat ([] : Str)).getD (0 : Int).toNat 0).toNat : Int) ≠ 99 then
  (Option.bind (Gj a4 a0 a2) fun a1 =>
  if (!a1.isLeft) = true then
  (some (.inr a1))
  else
  some (.inl a1))
  else
  some (.inl a0))
  else
  some (.inl a0)
def Ly {S_ X_ : Type} (a1 : S_ → List Str → Option (S_ ⊕ X_)) (c1 : List Int) (a2 : S_ ⊕ X_) : Option ((S_ ⊕ X_)) :=
  Option.bind (Z2h c1 ([10])) fun _ =>
  Option.bind (Z0o (fun s v => Gb a1 s v) ([10]) c1 0 (.inl a2)) fun t => match t with | .inl a0 => (some a0) | .inr a0 => (some a0)
def Lh (a0 : Str) (a1 : List Int) (a2 : List Str) (a3 : Bool) : Option ((Str × List Int) ⊕ (Str × List Int)) :=
  if a3 = true then
  (some (.inr (a0, a1)))
  else
  gd (inb 1 a2.length) <|
  some (.inl ((a2.getD (1 : Int).toNat ([] : Str)), a1))
def Gn (n0 : Net) (a0 : Str) (a1 : List Int) (a2 : List Str) : Option ((Str × List Int) ⊕ (Str × List Int)) :=
  if a0 = ([] : Str) then
  (if (a2.length : Int) ≠ 2 then
  (Lh a0 a1 a2 true)
  else
  gd (inb 0 a2.length) <|
  Lh a0 a1 a2 (decide (¬((a2.getD (0 : Int).toNat ([] : Str)) = ([115] : Str)))))
  else
  if (a1.length : Int) = (n0.Arcs.length : Int) then
  (some (.inr (a0, a1)))
  else
  gd (inb (a1.length : Int) n0.Arcs.length) <|
  Option.bind (Z1p (n0.Arcs.getD (a1.length : Int).toNat default) a2) fun (a3, a4) =>
  if (!a4) = true then
  (some (.inr (a0, a1)))
  else
  gd (apok (a1 ++ ([a3])).length 8) <|
  some (.inl (a0, (a1 ++ ([a3]))))
def Z1i (n0 : Net) (b1 : List Int) : Option (Str × List Int × Bool) :=
  Option.bind (Rd b1) fun _ =>
  Option.bind (Ly (fun s v => Gn n0 s.1 s.2 v) b1 (.inl (([] : Str), ([] : List Int)))) fun t => match t with | .inl (a0, a1) => (if ¬(a0 = ([] : Str)) then (some (a0, a1, (decide ((a1.length : Int) = (n0.Arcs.length : Int))))) else some (a0, a1, false)) | .inr (a0, a1) => (some (([] : Str), [], false))
def Z2o (r8 : List Int) (a0 : Bool) : Option (List Int × Int) :=
  if a0 = true then
  (some ([], 70))
  else
  some (r8, 0)
def Nd (n0 : Net) (b1 : List Int) : Option (List Int × Int) :=
  Option.bind (Jx n0) fun r4 =>
  if r4 ≠ 0 then
  (some ([], r4))
  else
  Option.bind (Z1i n0 b1) fun (r7, r8, r9) =>
  if (!r9) = true then
  (some ([], 70))
  else
  Option.bind (Lq n0 r8) fun (a0, a1) =>
  if a1 ≠ 0 then
  (Z2o r8 true)
  else
  Z2o r8 (decide (¬(a0 = r7)))
def Lg (n0 : Net) (a4 : Int) (a1 : List Bool) (a0 : Int) (a3 : List Str) (a5 : Bool) : Option ((Int × List Bool × Int) ⊕ (Int × List Bool × Int)) :=
  if a5 = true then
  (some (.inr (70, a1, a0)))
  else
  gd (inb 1 a3.length) <|
  gd (i64ok (a0 + 1)) <|
  Option.bind (Gi (a3.getD (1 : Int).toNat ([] : Str)) (a0 + 1) n0.N) fun (a2, a6) =>
  if (!a6) = true then
  (some (.inr (70, a1, a0)))
  else
  gd (i64ok (a2 - 1)) <|
  gd (inb (a2 - 1) a1.length) <|
  some (.inl (a4, (a1.set (a2 - 1).toNat true), a2))
def Gz (n0 : Net) (a3 : Int) (a1 : List Bool) (a0 : Int) (a2 : List Str) : Option ((Int × List Bool × Int) ⊕ (Int × List Bool × Int)) :=
  if (a2.length : Int) ≠ 2 then
  (Lg n0 a3 a1 a0 a2 true)
  else
  gd (inb 0 a2.length) <|
  Lg n0 a3 a1 a0 a2 (decide (¬((a2.getD (0 : Int).toNat ([] : Str)) = ([107] : Str))))
def Nm (n0 : Net) (b1 : List Int) : Option (List Bool × Int) :=
  Option.bind (Jx n0) fun r8 =>
  if r8 ≠ 0 then
  (some ([], r8))
  else
  gd (mkok n0.N) <|
  Option.bind (Rd b1) fun _ =>
  Option.bind (Ly (fun s v => Gz n0 s.1 s.2.1 s.2.2 v) b1 (.inl (0, (List.replicate n0.N.toNat (false : Bool)), 0))) fun t => match t with | .inl (a2, a1, a0) => (some (a1, 0)) | .inr (a2, a1, a0) => (some ([], a2))
def Z29 (a2 : List Bool) (a0 : Bool) : Option (Bool) :=
  if a0 = true then
  (Option.bind (Rh a2 ([false, false])) fun a1 =>
  some a1)
  else
  some false
def Z3x (a1 : List Bool) (a2 : Int) (a0 : Bool) : Option (Bool) :=
  if a0 = true then
  (Z29 a1 (decide (a2 = 0)))
  else
  Z29 a1 false
def Z36 (a3 : Int) (a1 : List Bool) (a2 : Int) (a0 : Bool) : Option (Bool) :=
  if a0 = true then
  (Z3x a1 a2 (decide (a3 = 70)))
  else
  Z3x a1 a2 false
def Z23 (a4 : List Int) (a1 : Int) (a2 : List Bool) (a3 : Int) (a0 : Bool) : Option (Bool) :=
  if a0 = true then
  (Z36 a1 a2 a3 (decide ((bu a4) = ([107, 32, 49, 10] : Str))))
  else
  Z36 a1 a2 a3 false
def Z3u (a1 : List Int) (a5 a2 : Int) (a3 : List Bool) (a4 : Int) (a0 : Bool) : Option (Bool) :=
  if a0 = true then
  (Z23 a1 a2 a3 a4 (decide (a5 = 0)))
  else
  Z23 a1 a2 a3 a4 false
def Z2m (a7 : List Int) (a8 : Int) (a2 : List Int) (a3 a4 : Int) (a5 : List Bool) (a6 : Int) (a0 : Bool) : Option (Bool) :=
  if a0 = true then
  (Option.bind (Le a7 ([3])) fun a1 =>
  if a1 = true then
  (Z3u a2 a3 a4 a5 a6 (decide (a8 = 70)))
  else
  Z3u a2 a3 a4 a5 a6 false)
  else
  some false
def Z2b (a1 : List Int) (a8 a2 : Int) (a3 : List Int) (a4 a5 : Int) (a6 : List Bool) (a7 : Int) (a0 : Bool) : Option (Bool) :=
  if a0 = true then
  (Z2m a1 a2 a3 a4 a5 a6 a7 (decide (a8 = 0)))
  else
  Z2m a1 a2 a3 a4 a5 a6 a7 false
def Z3w (a9 : Int) (a1 : List Int) (a2 a3 : Int) (a4 : List Int) (a5 a6 : Int) (a7 : List Bool) (a8 : Int) (a0 : Bool) : Option (Bool) :=
  if a0 = true then
  (Z2b a1 a2 a3 a4 a5 a6 a7 a8 (decide (a9 = 20)))
  else
  Z2b a1 a2 a3 a4 a5 a6 a7 a8 false
def Z08  : Option (Bool) :=
  Option.bind (Nb (Net.mk 2 0 1 ([(Arc.mk 0 1 5)])) ([3])) fun (r7, r8) =>
  Option.bind (Nb (Net.mk 2 0 1 ([(Arc.mk 0 1 5)])) ([6])) fun (a9, a0) =>
  Option.bind (Nd (Net.mk 2 0 1 ([(Arc.mk 0 1 5)])) ([115, 32, 51, 10, 102, 32, 49, 32, 50, 32, 51])) fun (a1, a2) =>
  Option.bind (Nd (Net.mk 2 0 1 ([(Arc.mk 0 1 5)])) ([115, 32, 50, 10, 102, 32, 49, 32, 50, 32, 51, 10])) fun (b0, a3) =>
  Option.bind (Ls (Net.mk 2 0 1 ([(Arc.mk 0 1 5)])) ([true, false])) fun (a4, a5) =>
  Option.bind (Nm (Net.mk 2 0 1 ([(Arc.mk 0 1 5)])) ([107, 32, 50, 10, 107, 32, 49, 10])) fun (b1, a6) =>
  Option.bind (Nm (Net.mk 2 0 1 ([(Arc.mk 0 1 5)])) ([])) fun (a7, a8) =>
  if r8 = 0 then
  (Z3w a0 a1 a2 a3 a4 a5 a6 a7 a8 (decide ((bu r7) = ([115, 32, 51, 10, 102, 32, 49, 32, 50, 32, 51, 10] : Str))))
  else
  Z3w a0 a1 a2 a3 a4 a5 a6 a7 a8 false
end Go.Acq
namespace Go.Acq
open Go
def Z1c (s0 s1 : Str) : Option (Int) :=
  gd (s1.length = 1) <| some (((s0.count (s1.getD 0 0) : Nat) : Int))
def Z2g (s0 s1 : Str) (i2 i3 : Int) : Option (List Str) :=
  gd (s0.length < 4294967281 ∧ s1.length = 1 ∧ (i2 = 0 ∨ i2 = 1) ∧ i3 = -1) <| some (Vw (decide (i2 = 1)) (s1.getD 0 0) s0 [])
def Z2k (s0 a0 : Str) : Option (List Str) :=
  Option.bind (Z2g s0 a0 (a0.length : Int) (-1)) fun r1 =>
  some r1
def Z35 (s0 s1 s2 : Str) : Option (Str) :=
  gd (s0.length < 4294967281 ∧ s1.length = 1 ∧ s0.length + s0.count (s1.getD 0 0) * s2.length ≤ 140737488355328) <| some (Xr (s1.getD 0 0) s2 s0)
def Z04 (c2 : List Int) (r2 : List Str) (a1 : Int) (a0 : Str) (a2 : Int) : Option ((Int × Str × Int) ⊕ (Str × Int)) :=
  if a2 < (r2.length : Int) then
  (gd (inb a2 r2.length) <|
  gd (i64ok (a1 + 1)) <|
  if (a1 + 1) ≤ (c2.length : Int) then
  (gd (i64ok ((a1 + 1) - 1)) <|
  gd (inb ((a1 + 1) - 1) c2.length) <|
  gd (inb ((c2.getD ((a1 + 1) - 1).toNat 0).tmod 5) ([([] : Str), ([99, 32, 115, 32, 49, 10] : Str), ([10] : Str), ([32, 9, 10] : Str), ([99, 107, 32, 49, 10] : Str)]).length) <|
  gd (slok (a0 ++ (([([] : Str), ([99, 32, 115, 32, 49, 10] : Str), ([10] : Str), ([32, 9, 10] : Str), ([99, 107, 32, 49, 10] : Str)]).getD ((c2.getD ((a1 + 1) - 1).toNat 0).tmod 5).toNat ([] : Str))).length) <|
  gd (i64ok ((a1 + 1) - 1)) <|
  gd (inb ((a1 + 1) - 1) c2.length) <|
  gd ((5 : Int) ≠ 0 ∧ u8ok ((c2.getD ((a1 + 1) - 1).toNat 0).tdiv 5)) <|
  gd (inb (((c2.getD ((a1 + 1) - 1).toNat 0).tdiv 5).tmod 4) ([([32] : Str), ([32, 32] : Str), ([9] : Str), ([32, 13] : Str)]).length) <|
  Option.bind (Z35 (r2.getD a2.toNat ([] : Str)) ([32] : Str) (([([32] : Str), ([32, 32] : Str), ([9] : Str), ([32, 13] : Str)]).getD (((c2.getD ((a1 + 1) - 1).toNat 0).tdiv 5).tmod 4).toNat ([] : Str))) fun a3 =>
  gd (slok ((a0 ++ (([([] : Str), ([99, 32, 115, 32, 49, 10] : Str), ([10] : Str), ([32, 9, 10] : Str), ([99, 107, 32, 49, 10] : Str)]).getD ((c2.getD ((a1 + 1) - 1).toNat 0).tmod 5).toNat ([] : Str))) ++ a3).length) <|
  gd (i64ok (a2 + 1)) <|
  some (.inl ((a1 + 1), ((a0 ++ (([([] : Str), ([99, 32, 115, 32, 49, 10] : Str), ([10] : Str), ([32, 9, 10] : Str), ([99, 107, 32, 49, 10] : Str)]).getD ((c2.getD ((a1 + 1) - 1).toNat 0).tmod 5).toNat ([] : Str))) ++ a3), (a2 + 1))))
  else
  gd (slok (a0 ++ (r2.getD a2.toNat ([] : Str))).length) <|
  gd (i64ok (a2 + 1)) <|
  some (.inl ((a1 + 1), (a0 ++ (r2.getD a2.toNat ([] : Str))), (a2 + 1))))
  else
  some (.inr (a0, a1))
def Z38 (a0 : Str) (a1 : Int) : Option (List Int × Int) :=
  some ((ub a0), a1)
def Rr (a0 : Str) (c1 : Int) (c2 : List Int) : Option (List Int × Int) :=
  Option.bind (Z2k a0 ([10] : Str)) fun r2 =>
  Option.bind (Xa (fun s => Z04 c2 r2 s.1 s.2.1 s.2.2) Ys (c1, ([] : Str), 0)) fun (p1_0_0, p1_0_1) => Z38 p1_0_0 p1_0_1
def Lj (a0 : List Bool) (a1 a2 : Int) (a3 : Bool) : Option ((List Bool × Int × Int) ⊕ (List Bool × Int)) :=
  if a3 = true then
  (gd (inb a2 a0.length) <|
  gd (i64ok (a1 + 1)) <|
  gd (i64ok (a2 + 1)) <|
  some (.inl ((a0.set a2.toNat true), (a1 + 1), (a2 + 1))))
  else
  gd (i64ok (a2 + 1)) <|
  some (.inl (a0, a1, (a2 + 1)))
def Z1n (a0 : List Bool) (r5 : Net) (a1 : List Bool) (a2 a3 : Int) : Option ((List Bool × Int × Int) ⊕ (List Bool × Int)) :=
  if a3 < ((List.replicate r5.N.toNat (false : Bool)).length : Int) then
  (if a3 < (a0.length : Int) then
  (gd (inb a3 a0.length) <|
  Lj a1 a2 a3 (a0.getD a3.toNat false))
  else
  Lj a1 a2 a3 false)
  else
  some (.inr (a1, a2))
def Z0g (a0 : Bool) : Option (Bool) :=
  some a0
def Rx (a0 : Bool) : Option (Bool) :=
  if a0 = true then
  (Option.bind Z08 fun a1 =>
  Z0g a1)
  else
  Z0g false
def Z1f (a0 a1 : List Bool) (a2 : Bool) : Option (Bool) :=
  if a2 = true then
  (Option.bind (Rh a1 a0) fun a3 =>
  Rx a3)
  else
  Rx false
def Z0h (a4 : List Int) (a0 : List Bool) (a5 : List Int) (a1 : List Bool) (a2 : Bool) : Option (Bool) :=
  if a2 = true then
  (Option.bind (Le a5 a4) fun a3 =>
  Z1f a0 a1 a3)
  else
  Z1f a0 a1 false
def Z1u (a1 : List Int) (r5 : Net) (a3 : List Int) (a0 : List Bool) (a4 : Int) : Option (Bool) :=
  Option.bind (Nb r5 a3) fun (a7, b0) =>
  Option.bind (Ls r5 a0) fun (a8, b1) =>
  if b0 ≠ 0 then
  (some false)
  else
  if b1 ≠ 0 then
  (some false)
  else
  Option.bind (Z1c (bu a7) ([10] : Str)) fun b3 =>
  gd (i64ok (1 + (r5.Arcs.length : Int))) <|
  if b3 ≠ (1 + (r5.Arcs.length : Int)) then
  (some false)
  else
  Option.bind (Z1c (bu a8) ([10] : Str)) fun b5 =>
  if b5 ≠ a4 then
  (some false)
  else
  Option.bind (Rr (bu a7) 0 a1) fun (b6, r82) =>
  Option.bind (Nd r5 b6) fun (a9, b7) =>
  Option.bind (Rr (bu a8) r82 a1) fun (a5, b8) =>
  Option.bind (Nm r5 a5) fun (a2, a6) =>
  if b7 = 0 then
  (Z0h a3 a0 a9 a2 (decide (a6 = 0)))
  else
  Z0h a3 a0 a9 a2 false
def Z3a (n0 : Net) (l1 : List Int) (a0 : List Bool) (a1 : List Int) : Option (Bool) :=
  Option.bind (Z1e n0 20 30) fun r5 =>
  Option.bind (Z0c r5 l1) fun a2 =>
  gd (mkok r5.N) <|
  Option.bind (Xa (fun s => Z1n a0 r5 s.1 s.2.1 s.2.2) Ys ((List.replicate r5.N.toNat (false : Bool)), 0, 0)) fun (p1_0_0, p1_0_1) => Z1u a1 r5 a2 p1_0_0 p1_0_1
end Go.Acq
namespace Go.Proofs
open Go.Shelf
def Z9l : Go.Shelf.Ren := ⟨fun | 171 => 45 | 243 => 86 | 246 => 70 | 283 => 115 | 284 => 116 | 285 => 117 | 286 => 118 | 129 => 151 | 317 => 150 | 318 => 152 | 319 => 153 | 320 => 154 | 337 => 176 | 338 => 177 | n => n, fun | 3 => 3 | 9 => 9 | 2 => 2 | 4 => 4 | 171 => 159 | 0 => 0 | 53 => 156 | 37 => 25 | 5 => 5 | 173 => 162 | 212 => 184 | 51 => 153 | 20 => 20 | 213 => 185 | 46 => 110 | 232 => 224 | 233 => 225 | n => n, fun | 17 => 2 | 18 => 8 | 19 => 9 | n => n⟩
theorem Zdq : Go.Proofs.LaysM.n171 Tryz.prog Z9l := {
 mixed := by kernel_rfl
 f129 := Tryz.func151.trans (congrArg some (by kernel_rfl))
 f171 := Tryz.func45.trans (congrArg some (by kernel_rfl))
 f243 := Tryz.func86.trans (congrArg some (by kernel_rfl))
 f246 := Tryz.func70.trans (congrArg some (by kernel_rfl))
 f283 := Tryz.func115.trans (congrArg some (by kernel_rfl))
 f284 := Tryz.func116.trans (congrArg some (by kernel_rfl))
 f285 := Tryz.func117.trans (congrArg some (by kernel_rfl))
 f286 := Tryz.func118.trans (congrArg some (by kernel_rfl))
 f317 := Tryz.func150.trans (congrArg some (by kernel_rfl))
 f318 := Tryz.func152.trans (congrArg some (by kernel_rfl))
 f319 := Tryz.func153.trans (congrArg some (by kernel_rfl))
 f320 := Tryz.func154.trans (congrArg some (by kernel_rfl))
 f337 := Tryz.func176.trans (congrArg some (by kernel_rfl))
 f338 := Tryz.func177.trans (congrArg some (by kernel_rfl))
 t0 := Tryz.underlying0
 a0 := Tryz.isAgg0
 z0 := Tryz.sizeOf0
 v0 := Tryz.zeroValue0
 t2 := Tryz.underlying2
 a2 := Tryz.isAgg2
 z2 := Tryz.sizeOf2
 v2 := Tryz.zeroValue2
 t3 := Tryz.underlying3
 a3 := Tryz.isAgg3
 z3 := Tryz.sizeOf3
 v3 := Tryz.zeroValue3
 t4 := Tryz.underlying4
 a4 := Tryz.isAgg4
 z4 := Tryz.sizeOf4
 v4 := Tryz.zeroValue4
 t5 := Tryz.underlying5
 a5 := Tryz.isAgg5
 z5 := Tryz.sizeOf5
 v5 := Tryz.zeroValue5
 t9 := Tryz.underlying9
 a9 := Tryz.isAgg9
 z9 := Tryz.sizeOf9
 v9 := Tryz.zeroValue9
 t20 := Tryz.underlying20
 a20 := Tryz.isAgg20
 z20 := Tryz.sizeOf20
 v20 := Tryz.zeroValue20
 t37 := Tryz.underlying25
 a37 := Tryz.isAgg25
 z37 := Tryz.sizeOf25
 v37 := Tryz.zeroValue25
 t46 := Tryz.underlying110
 a46 := Tryz.isAgg110
 z46 := Tryz.sizeOf110
 v46 := Tryz.zeroValue110
 t51 := Tryz.underlying153
 a51 := Tryz.isAgg153
 z51 := Tryz.sizeOf153
 v51 := Tryz.zeroValue153
 t53 := Tryz.underlying156
 a53 := Tryz.isAgg156
 z53 := Tryz.sizeOf156
 v53 := Tryz.zeroValue156
 t171 := Tryz.underlying159
 a171 := Tryz.isAgg159
 z171 := Tryz.sizeOf159
 v171 := Tryz.zeroValue159
 t173 := Tryz.underlying162
 a173 := Tryz.isAgg162
 z173 := Tryz.sizeOf162
 v173 := Tryz.zeroValue162
 t212 := Tryz.underlying184
 a212 := Tryz.isAgg184
 z212 := Tryz.sizeOf184
 v212 := Tryz.zeroValue184
 t213 := Tryz.underlying185
 a213 := Tryz.isAgg185
 z213 := Tryz.sizeOf185
 t232 := Tryz.underlying224
 a232 := Tryz.isAgg224
 z232 := Tryz.sizeOf224
 v232 := Tryz.zeroValue224
 t233 := Tryz.underlying225
 a233 := Tryz.isAgg225
 z233 := Tryz.sizeOf225
 v233 := Tryz.zeroValue225
 g17 := by kernel_rfl
 g18 := by kernel_rfl
 g19 := by kernel_rfl
 i0 := by kernel_rfl
 i2 := by kernel_rfl
 i3 := by kernel_rfl
 i4 := by kernel_rfl
 i5 := by kernel_rfl
 i9 := by kernel_rfl
 i20 := by kernel_rfl
 i37 := by kernel_rfl
 i46 := by kernel_rfl
 i51 := by kernel_rfl
 i53 := by kernel_rfl
 i171 := by kernel_rfl
 i173 := by kernel_rfl
 i212 := by kernel_rfl
 i232 := by kernel_rfl
 i233 := by kernel_rfl
 m17 := by kernel_rfl
 m18 := by kernel_rfl
 m19 := by kernel_rfl }
def Zdf : Go.Shelf.Ren := ⟨fun | 173 => 32 | 246 => 70 | 283 => 115 | 284 => 116 | 285 => 117 | 286 => 118 | 129 => 151 | 317 => 150 | 318 => 152 | 319 => 153 | 320 => 154 | 337 => 176 | 338 => 177 | n => n, fun | 2 => 2 | 3 => 3 | 9 => 9 | 4 => 4 | 171 => 159 | 0 => 0 | 53 => 156 | 37 => 25 | 5 => 5 | 173 => 162 | 212 => 184 | 51 => 153 | 20 => 20 | 213 => 185 | 46 => 110 | 232 => 224 | 233 => 225 | n => n, fun | 17 => 2 | 18 => 8 | 19 => 9 | n => n⟩
theorem Zc9 : Go.Proofs.LaysM.n173 Tryz.prog Zdf := {
 mixed := by kernel_rfl
 f129 := Tryz.func151.trans (congrArg some (by kernel_rfl))
 f173 := Tryz.func32.trans (congrArg some (by kernel_rfl))
 f246 := Tryz.func70.trans (congrArg some (by kernel_rfl))
 f283 := Tryz.func115.trans (congrArg some (by kernel_rfl))
 f284 := Tryz.func116.trans (congrArg some (by kernel_rfl))
 f285 := Tryz.func117.trans (congrArg some (by kernel_rfl))
 f286 := Tryz.func118.trans (congrArg some (by kernel_rfl))
 f317 := Tryz.func150.trans (congrArg some (by kernel_rfl))
 f318 := Tryz.func152.trans (congrArg some (by kernel_rfl))
 f319 := Tryz.func153.trans (congrArg some (by kernel_rfl))
 f320 := Tryz.func154.trans (congrArg some (by kernel_rfl))
 f337 := Tryz.func176.trans (congrArg some (by kernel_rfl))
 f338 := Tryz.func177.trans (congrArg some (by kernel_rfl))
 t0 := Tryz.underlying0
 a0 := Tryz.isAgg0
 z0 := Tryz.sizeOf0
 v0 := Tryz.zeroValue0
 t2 := Tryz.underlying2
 a2 := Tryz.isAgg2
 z2 := Tryz.sizeOf2
 v2 := Tryz.zeroValue2
 t3 := Tryz.underlying3
 a3 := Tryz.isAgg3
 z3 := Tryz.sizeOf3
 v3 := Tryz.zeroValue3
 t4 := Tryz.underlying4
 a4 := Tryz.isAgg4
 z4 := Tryz.sizeOf4
 v4 := Tryz.zeroValue4
 t5 := Tryz.underlying5
 a5 := Tryz.isAgg5
 z5 := Tryz.sizeOf5
 v5 := Tryz.zeroValue5
 t9 := Tryz.underlying9
 a9 := Tryz.isAgg9
 z9 := Tryz.sizeOf9
 v9 := Tryz.zeroValue9
 t20 := Tryz.underlying20
 a20 := Tryz.isAgg20
 z20 := Tryz.sizeOf20
 v20 := Tryz.zeroValue20
 t37 := Tryz.underlying25
 a37 := Tryz.isAgg25
 z37 := Tryz.sizeOf25
 v37 := Tryz.zeroValue25
 t46 := Tryz.underlying110
 a46 := Tryz.isAgg110
 z46 := Tryz.sizeOf110
 v46 := Tryz.zeroValue110
 t51 := Tryz.underlying153
 a51 := Tryz.isAgg153
 z51 := Tryz.sizeOf153
 v51 := Tryz.zeroValue153
 t53 := Tryz.underlying156
 a53 := Tryz.isAgg156
 z53 := Tryz.sizeOf156
 v53 := Tryz.zeroValue156
 t171 := Tryz.underlying159
 a171 := Tryz.isAgg159
 z171 := Tryz.sizeOf159
 v171 := Tryz.zeroValue159
 t173 := Tryz.underlying162
 a173 := Tryz.isAgg162
 z173 := Tryz.sizeOf162
 v173 := Tryz.zeroValue162
 t212 := Tryz.underlying184
 a212 := Tryz.isAgg184
 z212 := Tryz.sizeOf184
 v212 := Tryz.zeroValue184
 t213 := Tryz.underlying185
 a213 := Tryz.isAgg185
 z213 := Tryz.sizeOf185
 t232 := Tryz.underlying224
 a232 := Tryz.isAgg224
 z232 := Tryz.sizeOf224
 v232 := Tryz.zeroValue224
 t233 := Tryz.underlying225
 a233 := Tryz.isAgg225
 z233 := Tryz.sizeOf225
 v233 := Tryz.zeroValue225
 g17 := by kernel_rfl
 g18 := by kernel_rfl
 g19 := by kernel_rfl
 i0 := by kernel_rfl
 i2 := by kernel_rfl
 i3 := by kernel_rfl
 i4 := by kernel_rfl
 i5 := by kernel_rfl
 i9 := by kernel_rfl
 i20 := by kernel_rfl
 i37 := by kernel_rfl
 i46 := by kernel_rfl
 i51 := by kernel_rfl
 i53 := by kernel_rfl
 i171 := by kernel_rfl
 i173 := by kernel_rfl
 i212 := by kernel_rfl
 i232 := by kernel_rfl
 i233 := by kernel_rfl
 m17 := by kernel_rfl
 m18 := by kernel_rfl
 m19 := by kernel_rfl }
def Z3s : Go.Shelf.Ren := ⟨fun | 178 => 52 | 251 => 101 | 252 => 102 | 181 => 138 | 184 => 139 | 290 => 140 | 324 => 173 | n => n, fun | 130 => 76 | 9 => 9 | 3 => 3 | 75 => 90 | 0 => 0 | 93 => 74 | 91 => 72 | 131 => 145 | 4 => 4 | 37 => 25 | 20 => 20 | 80 => 109 | 5 => 5 | n => n, fun | 14 => 1 | n => n⟩
theorem Z4u : Go.Proofs.LaysM.n178 Tryz.prog Z3s := {
 mixed := by kernel_rfl
 f178 := Tryz.func52.trans (congrArg some (by kernel_rfl))
 f181 := Tryz.func138.trans (congrArg some (by kernel_rfl))
 f184 := Tryz.func139.trans (congrArg some (by kernel_rfl))
 f251 := Tryz.func101.trans (congrArg some (by kernel_rfl))
 f252 := Tryz.func102.trans (congrArg some (by kernel_rfl))
 f290 := Tryz.func140.trans (congrArg some (by kernel_rfl))
 f324 := Tryz.func173.trans (congrArg some (by kernel_rfl))
 t0 := Tryz.underlying0
 a0 := Tryz.isAgg0
 z0 := Tryz.sizeOf0
 v0 := Tryz.zeroValue0
 t3 := Tryz.underlying3
 a3 := Tryz.isAgg3
 z3 := Tryz.sizeOf3
 v3 := Tryz.zeroValue3
 t4 := Tryz.underlying4
 a4 := Tryz.isAgg4
 z4 := Tryz.sizeOf4
 v4 := Tryz.zeroValue4
 t9 := Tryz.underlying9
 a9 := Tryz.isAgg9
 z9 := Tryz.sizeOf9
 v9 := Tryz.zeroValue9
 t20 := Tryz.underlying20
 a20 := Tryz.isAgg20
 z20 := Tryz.sizeOf20
 v20 := Tryz.zeroValue20
 t37 := Tryz.underlying25
 a37 := Tryz.isAgg25
 z37 := Tryz.sizeOf25
 v37 := Tryz.zeroValue25
 t75 := Tryz.underlying90
 a75 := Tryz.isAgg90
 z75 := Tryz.sizeOf90
 v75 := Tryz.zeroValue90
 t91 := Tryz.underlying72
 a91 := Tryz.isAgg72
 z91 := Tryz.sizeOf72
 v91 := Tryz.zeroValue72
 t93 := Tryz.underlying74
 a93 := Tryz.isAgg74
 z93 := Tryz.sizeOf74
 v93 := Tryz.zeroValue74
 t130 := Tryz.underlying76
 a130 := Tryz.isAgg76
 z130 := Tryz.sizeOf76
 v130 := Tryz.zeroValue76
 t131 := Tryz.underlying145
 a131 := Tryz.isAgg145
 z131 := Tryz.sizeOf145
 v131 := Tryz.zeroValue145
 g14 := by kernel_rfl
 t5 := Tryz.underlying5
 a5 := Tryz.isAgg5
 z5 := Tryz.sizeOf5
 v5 := Tryz.zeroValue5
 t80 := Tryz.underlying109
 a80 := Tryz.isAgg109
 z80 := Tryz.sizeOf109
 v80 := Tryz.zeroValue109
 i0 := by kernel_rfl
 i3 := by kernel_rfl
 i4 := by kernel_rfl
 i5 := by kernel_rfl
 i9 := by kernel_rfl
 i20 := by kernel_rfl
 i37 := by kernel_rfl
 i75 := by kernel_rfl
 i80 := by kernel_rfl
 i91 := by kernel_rfl
 i93 := by kernel_rfl
 i130 := by kernel_rfl
 i131 := by kernel_rfl
 m14 := by kernel_rfl }
def Z4o : Go.Shelf.Ren := ⟨fun | 183 => 47 | n => n, fun | 130 => 76 | 37 => 25 | 0 => 0 | 93 => 74 | 3 => 3 | 5 => 5 | 91 => 72 | n => n, fun | n => n⟩
theorem Z80 : Go.Proofs.LaysM.n183 Tryz.prog Z4o := {
 mixed := by kernel_rfl
 f183 := Tryz.func47.trans (congrArg some (by kernel_rfl))
 t0 := Tryz.underlying0
 a0 := Tryz.isAgg0
 z0 := Tryz.sizeOf0
 v0 := Tryz.zeroValue0
 t3 := Tryz.underlying3
 a3 := Tryz.isAgg3
 z3 := Tryz.sizeOf3
 v3 := Tryz.zeroValue3
 t37 := Tryz.underlying25
 a37 := Tryz.isAgg25
 z37 := Tryz.sizeOf25
 v37 := Tryz.zeroValue25
 t93 := Tryz.underlying74
 a93 := Tryz.isAgg74
 z93 := Tryz.sizeOf74
 v93 := Tryz.zeroValue74
 t130 := Tryz.underlying76
 a130 := Tryz.isAgg76
 z130 := Tryz.sizeOf76
 v130 := Tryz.zeroValue76
 t5 := Tryz.underlying5
 a5 := Tryz.isAgg5
 z5 := Tryz.sizeOf5
 v5 := Tryz.zeroValue5
 t91 := Tryz.underlying72
 a91 := Tryz.isAgg72
 z91 := Tryz.sizeOf72
 v91 := Tryz.zeroValue72
 i0 := by kernel_rfl
 i3 := by kernel_rfl
 i5 := by kernel_rfl
 i37 := by kernel_rfl
 i91 := by kernel_rfl
 i93 := by kernel_rfl
 i130 := by kernel_rfl }
def Zcm : Go.Shelf.Ren := ⟨fun | 174 => 73 | 247 => 120 | 245 => 121 | 287 => 156 | 279 => 157 | 280 => 158 | 281 => 159 | 282 => 160 | 321 => 178 | 322 => 179 | 316 => 180 | 171 => 45 | 205 => 181 | 243 => 86 | 246 => 70 | 283 => 115 | 284 => 116 | 285 => 117 | 286 => 118 | 129 => 151 | 317 => 150 | 318 => 152 | 319 => 153 | 320 => 154 | 337 => 176 | 338 => 177 | n => n, fun | 9 => 9 | 3 => 3 | 2 => 2 | 75 => 90 | 85 => 117 | 4 => 4 | 167 => 189 | 5 => 5 | 53 => 156 | 175 => 190 | 46 => 110 | 168 => 192 | 37 => 25 | 0 => 0 | 210 => 217 | 21 => 21 | 127 => 152 | 145 => 228 | 143 => 226 | 171 => 159 | 173 => 162 | 212 => 184 | 51 => 153 | 20 => 20 | 213 => 185 | 232 => 224 | 233 => 225 | 80 => 109 | n => n, fun | 15 => 6 | 16 => 7 | 17 => 2 | 18 => 8 | 19 => 9 | n => n⟩
theorem Zb6 : Go.Proofs.LaysC.n174 Tryz.prog Zcm := {
 mixed := by kernel_rfl
 f129 := Tryz.func151.trans (congrArg some (by kernel_rfl))
 f171 := Tryz.func45.trans (congrArg some (by kernel_rfl))
 f174 := Tryz.func73.trans (congrArg some (by kernel_rfl))
 f205 := Tryz.func181.trans (congrArg some (by kernel_rfl))
 f243 := Tryz.func86.trans (congrArg some (by kernel_rfl))
 f245 := Tryz.func121.trans (congrArg some (by kernel_rfl))
 f246 := Tryz.func70.trans (congrArg some (by kernel_rfl))
 f247 := Tryz.func120.trans (congrArg some (by kernel_rfl))
 f279 := Tryz.func157.trans (congrArg some (by kernel_rfl))
 f280 := Tryz.func158.trans (congrArg some (by kernel_rfl))
 f281 := Tryz.func159.trans (congrArg some (by kernel_rfl))
 f282 := Tryz.func160.trans (congrArg some (by kernel_rfl))
 f283 := Tryz.func115.trans (congrArg some (by kernel_rfl))
 f284 := Tryz.func116.trans (congrArg some (by kernel_rfl))
 f285 := Tryz.func117.trans (congrArg some (by kernel_rfl))
 f286 := Tryz.func118.trans (congrArg some (by kernel_rfl))
 f287 := Tryz.func156.trans (congrArg some (by kernel_rfl))
 f316 := Tryz.func180.trans (congrArg some (by kernel_rfl))
 f317 := Tryz.func150.trans (congrArg some (by kernel_rfl))
 f318 := Tryz.func152.trans (congrArg some (by kernel_rfl))
 f319 := Tryz.func153.trans (congrArg some (by kernel_rfl))
 f320 := Tryz.func154.trans (congrArg some (by kernel_rfl))
 f321 := Tryz.func178.trans (congrArg some (by kernel_rfl))
 f322 := Tryz.func179.trans (congrArg some (by kernel_rfl))
 f337 := Tryz.func176.trans (congrArg some (by kernel_rfl))
 f338 := Tryz.func177.trans (congrArg some (by kernel_rfl))
 t0 := Tryz.underlying0
 a0 := Tryz.isAgg0
 z0 := Tryz.sizeOf0
 v0 := Tryz.zeroValue0
 t2 := Tryz.underlying2
 a2 := Tryz.isAgg2
 z2 := Tryz.sizeOf2
 v2 := Tryz.zeroValue2
 t3 := Tryz.underlying3
 a3 := Tryz.isAgg3
 z3 := Tryz.sizeOf3
 v3 := Tryz.zeroValue3
 t4 := Tryz.underlying4
 a4 := Tryz.isAgg4
 z4 := Tryz.sizeOf4
 v4 := Tryz.zeroValue4
 t5 := Tryz.underlying5
 a5 := Tryz.isAgg5
 z5 := Tryz.sizeOf5
 v5 := Tryz.zeroValue5
 t9 := Tryz.underlying9
 a9 := Tryz.isAgg9
 z9 := Tryz.sizeOf9
 v9 := Tryz.zeroValue9
 t20 := Tryz.underlying20
 a20 := Tryz.isAgg20
 z20 := Tryz.sizeOf20
 v20 := Tryz.zeroValue20
 t21 := Tryz.underlying21
 a21 := Tryz.isAgg21
 z21 := Tryz.sizeOf21
 v21 := Tryz.zeroValue21
 t37 := Tryz.underlying25
 a37 := Tryz.isAgg25
 z37 := Tryz.sizeOf25
 v37 := Tryz.zeroValue25
 t46 := Tryz.underlying110
 a46 := Tryz.isAgg110
 z46 := Tryz.sizeOf110
 v46 := Tryz.zeroValue110
 t51 := Tryz.underlying153
 a51 := Tryz.isAgg153
 z51 := Tryz.sizeOf153
 v51 := Tryz.zeroValue153
 t53 := Tryz.underlying156
 a53 := Tryz.isAgg156
 z53 := Tryz.sizeOf156
 v53 := Tryz.zeroValue156
 t75 := Tryz.underlying90
 a75 := Tryz.isAgg90
 z75 := Tryz.sizeOf90
 v75 := Tryz.zeroValue90
 t85 := Tryz.underlying117
 a85 := Tryz.isAgg117
 z85 := Tryz.sizeOf117
 v85 := Tryz.zeroValue117
 t127 := Tryz.underlying152
 a127 := Tryz.isAgg152
 z127 := Tryz.sizeOf152
 v127 := Tryz.zeroValue152
 t143 := Tryz.underlying226
 a143 := Tryz.isAgg226
 z143 := Tryz.sizeOf226
 v143 := Tryz.zeroValue226
 t145 := Tryz.underlying228
 a145 := Tryz.isAgg228
 z145 := Tryz.sizeOf228
 v145 := Tryz.zeroValue228
 t167 := Tryz.underlying189
 a167 := Tryz.isAgg189
 z167 := Tryz.sizeOf189
 v167 := Tryz.zeroValue189
 t168 := Tryz.underlying192
 a168 := Tryz.isAgg192
 z168 := Tryz.sizeOf192
 v168 := Tryz.zeroValue192
 t171 := Tryz.underlying159
 a171 := Tryz.isAgg159
 z171 := Tryz.sizeOf159
 v171 := Tryz.zeroValue159
 t173 := Tryz.underlying162
 a173 := Tryz.isAgg162
 z173 := Tryz.sizeOf162
 v173 := Tryz.zeroValue162
 t175 := Tryz.underlying190
 a175 := Tryz.isAgg190
 z175 := Tryz.sizeOf190
 v175 := Tryz.zeroValue190
 t210 := Tryz.underlying217
 a210 := Tryz.isAgg217
 z210 := Tryz.sizeOf217
 v210 := Tryz.zeroValue217
 t212 := Tryz.underlying184
 a212 := Tryz.isAgg184
 z212 := Tryz.sizeOf184
 v212 := Tryz.zeroValue184
 t213 := Tryz.underlying185
 a213 := Tryz.isAgg185
 z213 := Tryz.sizeOf185
 t232 := Tryz.underlying224
 a232 := Tryz.isAgg224
 z232 := Tryz.sizeOf224
 v232 := Tryz.zeroValue224
 t233 := Tryz.underlying225
 a233 := Tryz.isAgg225
 z233 := Tryz.sizeOf225
 v233 := Tryz.zeroValue225
 g15 := by kernel_rfl
 g16 := by kernel_rfl
 g17 := by kernel_rfl
 g18 := by kernel_rfl
 g19 := by kernel_rfl
 t80 := Tryz.underlying109
 a80 := Tryz.isAgg109
 z80 := Tryz.sizeOf109
 v80 := Tryz.zeroValue109
 i0 := by kernel_rfl
 i2 := by kernel_rfl
 i3 := by kernel_rfl
 i4 := by kernel_rfl
 i5 := by kernel_rfl
 i9 := by kernel_rfl
 i20 := by kernel_rfl
 i21 := by kernel_rfl
 i37 := by kernel_rfl
 i46 := by kernel_rfl
 i51 := by kernel_rfl
 i53 := by kernel_rfl
 i75 := by kernel_rfl
 i80 := by kernel_rfl
 i85 := by kernel_rfl
 i127 := by kernel_rfl
 i143 := by kernel_rfl
 i145 := by kernel_rfl
 i167 := by kernel_rfl
 i168 := by kernel_rfl
 i171 := by kernel_rfl
 i173 := by kernel_rfl
 i175 := by kernel_rfl
 i210 := by kernel_rfl
 i212 := by kernel_rfl
 i232 := by kernel_rfl
 i233 := by kernel_rfl
 m15 := by kernel_rfl
 m16 := by kernel_rfl
 m17 := by kernel_rfl
 m18 := by kernel_rfl
 m19 := by kernel_rfl
 c0 := by kernel_rfl
 c2 := by kernel_rfl
 c3 := by kernel_rfl
 c4 := by kernel_rfl
 c5 := by kernel_rfl
 c9 := by kernel_rfl
 c20 := by kernel_rfl
 c21 := by kernel_rfl
 c37 := by kernel_rfl
 c46 := by kernel_rfl
 c51 := by kernel_rfl
 c53 := by kernel_rfl
 c75 := by kernel_rfl
 c80 := by kernel_rfl
 c85 := by kernel_rfl
 c127 := by kernel_rfl
 c143 := by kernel_rfl
 c145 := by kernel_rfl
 c167 := by kernel_rfl
 c168 := by kernel_rfl
 c171 := by kernel_rfl
 c173 := by kernel_rfl
 c175 := by kernel_rfl
 c210 := by kernel_rfl
 c212 := by kernel_rfl
 c213 := by kernel_rfl
 c232 := by kernel_rfl
 c233 := by kernel_rfl }
def Zb0 : Go.Shelf.Ren := ⟨fun | 229 => 146 | n => n, fun | 9 => 9 | 40 => 115 | 31 => 43 | 152 => 210 | 3 => 3 | 0 => 0 | 4 => 4 | 21 => 21 | 154 => 212 | n => n, fun | n => n⟩
theorem Zb3 : Go.Proofs.Lays.n229 Tryz.prog Zb0 := {
 mixed := by kernel_rfl
 f229 := Tryz.func146.trans (congrArg some (by kernel_rfl))
 t0 := Tryz.underlying0
 a0 := Tryz.isAgg0
 z0 := Tryz.sizeOf0
 v0 := Tryz.zeroValue0
 t3 := Tryz.underlying3
 a3 := Tryz.isAgg3
 z3 := Tryz.sizeOf3
 v3 := Tryz.zeroValue3
 t4 := Tryz.underlying4
 a4 := Tryz.isAgg4
 z4 := Tryz.sizeOf4
 v4 := Tryz.zeroValue4
 t9 := Tryz.underlying9
 a9 := Tryz.isAgg9
 z9 := Tryz.sizeOf9
 v9 := Tryz.zeroValue9
 t21 := Tryz.underlying21
 a21 := Tryz.isAgg21
 z21 := Tryz.sizeOf21
 v21 := Tryz.zeroValue21
 t31 := Tryz.underlying43
 a31 := Tryz.isAgg43
 z31 := Tryz.sizeOf43
 v31 := Tryz.zeroValue43
 t40 := Tryz.underlying115
 a40 := Tryz.isAgg115
 z40 := Tryz.sizeOf115
 v40 := Tryz.zeroValue115
 t152 := Tryz.underlying210
 a152 := Tryz.isAgg210
 z152 := Tryz.sizeOf210
 v152 := Tryz.zeroValue210
 t154 := Tryz.underlying212
 a154 := Tryz.isAgg212
 z154 := Tryz.sizeOf212
 v154 := Tryz.zeroValue212 }
def Zcl : Go.Shelf.Ren := ⟨fun | 17 => 72 | 15 => 119 | 20 => 155 | n => n, fun | 9 => 9 | 23 => 115 | 4 => 4 | 3 => 3 | 0 => 0 | 21 => 21 | n => n, fun | n => n⟩
theorem Zd0 : Go.Proofs.LaysGw.n17 Tryz.prog Zcl := {
 mixed := by kernel_rfl
 f15 := Tryz.func119.trans (congrArg some (by kernel_rfl))
 f17 := Tryz.func72.trans (congrArg some (by kernel_rfl))
 f20 := Tryz.func155.trans (congrArg some (by kernel_rfl))
 t0 := Tryz.underlying0
 a0 := Tryz.isAgg0
 z0 := Tryz.sizeOf0
 v0 := Tryz.zeroValue0
 i0 := by kernel_rfl
 t3 := Tryz.underlying3
 a3 := Tryz.isAgg3
 z3 := Tryz.sizeOf3
 v3 := Tryz.zeroValue3
 i3 := by kernel_rfl
 t4 := Tryz.underlying4
 a4 := Tryz.isAgg4
 z4 := Tryz.sizeOf4
 v4 := Tryz.zeroValue4
 i4 := by kernel_rfl
 t9 := Tryz.underlying9
 a9 := Tryz.isAgg9
 z9 := Tryz.sizeOf9
 v9 := Tryz.zeroValue9
 i9 := by kernel_rfl
 t21 := Tryz.underlying21
 a21 := Tryz.isAgg21
 z21 := Tryz.sizeOf21
 v21 := Tryz.zeroValue21
 i21 := by kernel_rfl
 t23 := Tryz.underlying115
 a23 := Tryz.isAgg115
 z23 := Tryz.sizeOf115
 v23 := Tryz.zeroValue115
 i23 := by kernel_rfl }
def Za7 : Go.Shelf.Ren := ⟨fun | 138 => 18 | 195 => 55 | 218 => 56 | 143 => 57 | 219 => 103 | 217 => 141 | 225 => 142 | 224 => 143 | 267 => 144 | 266 => 174 | 314 => 175 | n => n, fun | 9 => 9 | 3 => 3 | 4 => 4 | 5 => 5 | 0 => 0 | 46 => 110 | 146 => 154 | 51 => 153 | n => n, fun | 1 => 0 | n => n⟩
theorem Zau : Go.Proofs.Lays.n138 Tryz.prog Za7 := {
 mixed := by kernel_rfl
 f138 := Tryz.func18.trans (congrArg some (by kernel_rfl))
 f143 := Tryz.func57.trans (congrArg some (by kernel_rfl))
 f195 := Tryz.func55.trans (congrArg some (by kernel_rfl))
 f217 := Tryz.func141.trans (congrArg some (by kernel_rfl))
 f218 := Tryz.func56.trans (congrArg some (by kernel_rfl))
 f219 := Tryz.func103.trans (congrArg some (by kernel_rfl))
 f224 := Tryz.func143.trans (congrArg some (by kernel_rfl))
 f225 := Tryz.func142.trans (congrArg some (by kernel_rfl))
 f266 := Tryz.func174.trans (congrArg some (by kernel_rfl))
 f267 := Tryz.func144.trans (congrArg some (by kernel_rfl))
 f314 := Tryz.func175.trans (congrArg some (by kernel_rfl))
 t0 := Tryz.underlying0
 a0 := Tryz.isAgg0
 z0 := Tryz.sizeOf0
 v0 := Tryz.zeroValue0
 t3 := Tryz.underlying3
 a3 := Tryz.isAgg3
 z3 := Tryz.sizeOf3
 v3 := Tryz.zeroValue3
 t4 := Tryz.underlying4
 a4 := Tryz.isAgg4
 z4 := Tryz.sizeOf4
 v4 := Tryz.zeroValue4
 t5 := Tryz.underlying5
 a5 := Tryz.isAgg5
 z5 := Tryz.sizeOf5
 v5 := Tryz.zeroValue5
 t9 := Tryz.underlying9
 a9 := Tryz.isAgg9
 z9 := Tryz.sizeOf9
 v9 := Tryz.zeroValue9
 t46 := Tryz.underlying110
 a46 := Tryz.isAgg110
 z46 := Tryz.sizeOf110
 v46 := Tryz.zeroValue110
 t51 := Tryz.underlying153
 a51 := Tryz.isAgg153
 z51 := Tryz.sizeOf153
 v51 := Tryz.zeroValue153
 t146 := Tryz.underlying154
 a146 := Tryz.isAgg154
 z146 := Tryz.sizeOf154
 v146 := Tryz.zeroValue154
 g1 := by kernel_rfl }
def Zbn : Go.Shelf.Ren := ⟨fun | 221 => 58 | 268 => 104 | 138 => 18 | 143 => 57 | 195 => 55 | 197 => 105 | 218 => 56 | 219 => 103 | 260 => 145 | 217 => 141 | 225 => 142 | 224 => 143 | 267 => 144 | 266 => 174 | 314 => 175 | n => n, fun | 9 => 9 | 3 => 3 | 31 => 43 | 4 => 4 | 0 => 0 | 105 => 148 | 21 => 21 | 5 => 5 | 46 => 110 | 119 => 206 | 139 => 209 | 138 => 208 | 146 => 154 | 51 => 153 | n => n, fun | 1 => 0 | 3 => 4 | 4 => 5 | n => n⟩
theorem Z8y : Go.Proofs.Lays.n221 Tryz.prog Zbn := {
 mixed := by kernel_rfl
 f138 := Tryz.func18.trans (congrArg some (by kernel_rfl))
 f143 := Tryz.func57.trans (congrArg some (by kernel_rfl))
 f195 := Tryz.func55.trans (congrArg some (by kernel_rfl))
 f197 := Tryz.func105.trans (congrArg some (by kernel_rfl))
 f217 := Tryz.func141.trans (congrArg some (by kernel_rfl))
 f218 := Tryz.func56.trans (congrArg some (by kernel_rfl))
 f219 := Tryz.func103.trans (congrArg some (by kernel_rfl))
 f221 := Tryz.func58.trans (congrArg some (by kernel_rfl))
 f224 := Tryz.func143.trans (congrArg some (by kernel_rfl))
 f225 := Tryz.func142.trans (congrArg some (by kernel_rfl))
 f260 := Tryz.func145.trans (congrArg some (by kernel_rfl))
 f266 := Tryz.func174.trans (congrArg some (by kernel_rfl))
 f267 := Tryz.func144.trans (congrArg some (by kernel_rfl))
 f268 := Tryz.func104.trans (congrArg some (by kernel_rfl))
 f314 := Tryz.func175.trans (congrArg some (by kernel_rfl))
 t0 := Tryz.underlying0
 a0 := Tryz.isAgg0
 z0 := Tryz.sizeOf0
 v0 := Tryz.zeroValue0
 t3 := Tryz.underlying3
 a3 := Tryz.isAgg3
 z3 := Tryz.sizeOf3
 v3 := Tryz.zeroValue3
 t4 := Tryz.underlying4
 a4 := Tryz.isAgg4
 z4 := Tryz.sizeOf4
 v4 := Tryz.zeroValue4
 t5 := Tryz.underlying5
 a5 := Tryz.isAgg5
 z5 := Tryz.sizeOf5
 v5 := Tryz.zeroValue5
 t9 := Tryz.underlying9
 a9 := Tryz.isAgg9
 z9 := Tryz.sizeOf9
 v9 := Tryz.zeroValue9
 t21 := Tryz.underlying21
 a21 := Tryz.isAgg21
 z21 := Tryz.sizeOf21
 v21 := Tryz.zeroValue21
 t31 := Tryz.underlying43
 a31 := Tryz.isAgg43
 z31 := Tryz.sizeOf43
 v31 := Tryz.zeroValue43
 t46 := Tryz.underlying110
 a46 := Tryz.isAgg110
 z46 := Tryz.sizeOf110
 v46 := Tryz.zeroValue110
 t51 := Tryz.underlying153
 a51 := Tryz.isAgg153
 z51 := Tryz.sizeOf153
 v51 := Tryz.zeroValue153
 t105 := Tryz.underlying148
 a105 := Tryz.isAgg148
 z105 := Tryz.sizeOf148
 v105 := Tryz.zeroValue148
 t119 := Tryz.underlying206
 a119 := Tryz.isAgg206
 z119 := Tryz.sizeOf206
 t138 := Tryz.underlying208
 a138 := Tryz.isAgg208
 z138 := Tryz.sizeOf208
 v138 := Tryz.zeroValue208
 t139 := Tryz.underlying209
 a139 := Tryz.isAgg209
 z139 := Tryz.sizeOf209
 v139 := Tryz.zeroValue209
 t146 := Tryz.underlying154
 a146 := Tryz.isAgg154
 z146 := Tryz.sizeOf154
 v146 := Tryz.zeroValue154
 g1 := by kernel_rfl
 g3 := by kernel_rfl
 g4 := by kernel_rfl }
def Z9g : Go.Shelf.Ren := ⟨fun | 155 => 21 | 154 => 59 | 138 => 18 | 165 => 63 | 143 => 57 | 166 => 64 | 197 => 105 | 169 => 65 | 195 => 55 | 218 => 56 | 240 => 109 | 241 => 110 | 219 => 103 | 260 => 145 | 276 => 148 | 277 => 149 | 217 => 141 | 225 => 142 | 224 => 143 | 267 => 144 | 266 => 174 | 314 => 175 | n => n, fun | 9 => 9 | 3 => 3 | 4 => 4 | 72 => 107 | 0 => 0 | 76 => 91 | 105 => 148 | 21 => 21 | 5 => 5 | 70 => 105 | 20 => 20 | 37 => 25 | 75 => 90 | 127 => 152 | 164 => 180 | 46 => 110 | 119 => 206 | 139 => 209 | 138 => 208 | 146 => 154 | 51 => 153 | 80 => 109 | n => n, fun | 1 => 0 | 3 => 4 | 4 => 5 | n => n⟩
theorem Zci : Go.Proofs.Lays.n155 Tryz.prog Z9g := {
 mixed := by kernel_rfl
 f138 := Tryz.func18.trans (congrArg some (by kernel_rfl))
 f143 := Tryz.func57.trans (congrArg some (by kernel_rfl))
 f154 := Tryz.func59.trans (congrArg some (by kernel_rfl))
 f155 := Tryz.func21.trans (congrArg some (by kernel_rfl))
 f165 := Tryz.func63.trans (congrArg some (by kernel_rfl))
 f166 := Tryz.func64.trans (congrArg some (by kernel_rfl))
 f169 := Tryz.func65.trans (congrArg some (by kernel_rfl))
 f195 := Tryz.func55.trans (congrArg some (by kernel_rfl))
 f197 := Tryz.func105.trans (congrArg some (by kernel_rfl))
 f217 := Tryz.func141.trans (congrArg some (by kernel_rfl))
 f218 := Tryz.func56.trans (congrArg some (by kernel_rfl))
 f219 := Tryz.func103.trans (congrArg some (by kernel_rfl))
 f224 := Tryz.func143.trans (congrArg some (by kernel_rfl))
 f225 := Tryz.func142.trans (congrArg some (by kernel_rfl))
 f240 := Tryz.func109.trans (congrArg some (by kernel_rfl))
 f241 := Tryz.func110.trans (congrArg some (by kernel_rfl))
 f260 := Tryz.func145.trans (congrArg some (by kernel_rfl))
 f266 := Tryz.func174.trans (congrArg some (by kernel_rfl))
 f267 := Tryz.func144.trans (congrArg some (by kernel_rfl))
 f276 := Tryz.func148.trans (congrArg some (by kernel_rfl))
 f277 := Tryz.func149.trans (congrArg some (by kernel_rfl))
 f314 := Tryz.func175.trans (congrArg some (by kernel_rfl))
 t0 := Tryz.underlying0
 a0 := Tryz.isAgg0
 z0 := Tryz.sizeOf0
 v0 := Tryz.zeroValue0
 t3 := Tryz.underlying3
 a3 := Tryz.isAgg3
 z3 := Tryz.sizeOf3
 v3 := Tryz.zeroValue3
 t4 := Tryz.underlying4
 a4 := Tryz.isAgg4
 z4 := Tryz.sizeOf4
 v4 := Tryz.zeroValue4
 t5 := Tryz.underlying5
 a5 := Tryz.isAgg5
 z5 := Tryz.sizeOf5
 v5 := Tryz.zeroValue5
 t9 := Tryz.underlying9
 a9 := Tryz.isAgg9
 z9 := Tryz.sizeOf9
 v9 := Tryz.zeroValue9
 t20 := Tryz.underlying20
 a20 := Tryz.isAgg20
 z20 := Tryz.sizeOf20
 v20 := Tryz.zeroValue20
 t21 := Tryz.underlying21
 a21 := Tryz.isAgg21
 z21 := Tryz.sizeOf21
 v21 := Tryz.zeroValue21
 t37 := Tryz.underlying25
 a37 := Tryz.isAgg25
 z37 := Tryz.sizeOf25
 v37 := Tryz.zeroValue25
 t46 := Tryz.underlying110
 a46 := Tryz.isAgg110
 z46 := Tryz.sizeOf110
 v46 := Tryz.zeroValue110
 t51 := Tryz.underlying153
 a51 := Tryz.isAgg153
 z51 := Tryz.sizeOf153
 v51 := Tryz.zeroValue153
 t70 := Tryz.underlying105
 a70 := Tryz.isAgg105
 z70 := Tryz.sizeOf105
 v70 := Tryz.zeroValue105
 t72 := Tryz.underlying107
 a72 := Tryz.isAgg107
 z72 := Tryz.sizeOf107
 v72 := Tryz.zeroValue107
 t75 := Tryz.underlying90
 a75 := Tryz.isAgg90
 z75 := Tryz.sizeOf90
 v75 := Tryz.zeroValue90
 t76 := Tryz.underlying91
 a76 := Tryz.isAgg91
 z76 := Tryz.sizeOf91
 v76 := Tryz.zeroValue91
 t105 := Tryz.underlying148
 a105 := Tryz.isAgg148
 z105 := Tryz.sizeOf148
 v105 := Tryz.zeroValue148
 t119 := Tryz.underlying206
 a119 := Tryz.isAgg206
 z119 := Tryz.sizeOf206
 t127 := Tryz.underlying152
 a127 := Tryz.isAgg152
 z127 := Tryz.sizeOf152
 v127 := Tryz.zeroValue152
 t138 := Tryz.underlying208
 a138 := Tryz.isAgg208
 z138 := Tryz.sizeOf208
 v138 := Tryz.zeroValue208
 t139 := Tryz.underlying209
 a139 := Tryz.isAgg209
 z139 := Tryz.sizeOf209
 v139 := Tryz.zeroValue209
 t146 := Tryz.underlying154
 a146 := Tryz.isAgg154
 z146 := Tryz.sizeOf154
 v146 := Tryz.zeroValue154
 t164 := Tryz.underlying180
 a164 := Tryz.isAgg180
 z164 := Tryz.sizeOf180
 v164 := Tryz.zeroValue180
 g1 := by kernel_rfl
 g3 := by kernel_rfl
 g4 := by kernel_rfl }
theorem Zcz : Builder.Extra Tryz.prog Z9g := {
 sizeBuilder := by kernel_rfl
 liesBuilder := by kernel_rfl
 t5 := Tryz.underlying5
 a5 := Tryz.isAgg5
 z5 := Tryz.sizeOf5
 v5 := Tryz.zeroValue5
 infoByte := by kernel_rfl
 cellsByte := by kernel_rfl
 sizeByte := by kernel_rfl
 neB5 := by decide }
end Go.Proofs
