/- Texts of this claim, one behind the other. -/
import Derived.Test.YtfdhelnfgfaeaaaA1
import Derived.Deep.Slices
import Derived.Deep.Fields
import Derived.ChangeSame
import Derived.Lib.SmallJoins
import Derived.ProofKit
import Derived.ChangeArms
import Derived.RangeFuncSeq
import Derived.Conc.LoneCalls
import Derived.Conc.LoneSelectN
import Derived.Conc.SmallLaws
import Derived.Laws.StructEq
import Derived.Scope
import Derived.ChangeKeysEq
import Derived.Test.YtfdhelnfgfaeaaaChecked
set_option linter.unusedVariables false
set_option linter.unusedSimpArgs false
namespace Go.Acq
open Go Go.RowKit
section rules
variable {C : Cx} {ops : Array Oper} {Q : Exit → Act → World → Prop} {l : List Nat} {E : Env} {H R : Heap} {i d : Nat} {ty : TypeId} {pos : String} {af : Array Edge} {g : Option (Nat × Bool)}
theorem Zow {α : Type} {f : α → List Value} {s : Nat} (hf : ∀ x, (f x).length = s) (xs ys : List α) (j : List Value) (o : Nat) (ho : o ≤ xs.length) :
    (arr f xs j).take (o * s) ++ (ys.take (xs.length - o)).flatMap f ++ (arr f xs j).drop (o * s + ((ys.take (xs.length - o)).flatMap f).length) = arr f (xs.take o ++ cpy (xs.drop o) ys) j := by
  have h1 : arr f xs j = (xs.take o).flatMap f ++ arr f (xs.drop o) j := by
    simp only [arr]
    conv => lhs; rw [← List.take_append_drop o xs, List.flatMap_append, List.append_assoc]
  have h2 : ((xs.take o).flatMap f).length = o * s := by rw [Z2i hf, List.length_take, Nat.min_eq_left ho]
  have h3 := Zgs hf (xs.drop o) ys j
  rw [List.length_drop] at h3
  rw [h1, ← h2, List.take_left, List.drop_length_add_append, List.append_assoc, h3]
  simp only [arr, List.flatMap_append, List.append_assoc]
theorem cpyV_len {α : Type} {xs ys : List α} {n : Nat} {p : Int} (hn : xs.length = n) (h : 0 ≤ p ∧ p ≤ (xs.length : Int)) : (xs.take p.toNat ++ cpy (xs.drop p.toNat) ys).length = n := by
 rw [List.length_append, Zi6 (n := xs.length - p.toNat) (by rw [List.length_drop]), List.length_take]; omega
theorem TO.copyV {α : Type} {f : α → List Value} {s : Nat} {t t' e : TypeId} {x y : Operand} {b : Nat} {o : Nat} {base : Option Addr} {n c m cy : Nat} {xs ys : List α} {j : List Value}
    (hf : ∀ x, (f x).length = s) (h1 : ∀ x, (f x).all (·.oneCell') = true) (ho' : o ≤ xs.length) (hn : xs.length = n) (hnc : n ≤ c)
    (ho : ops[i]? = some ⟨some d, .call ⟨.builtin .copy, #[x, y], #[t, t']⟩, ty, pos, af, g⟩) (hg : gdB ops E g = true) (hd : Nat.ble (d + 1) C.n = true)
    (hx : ev E x = some (.slice (Zld (some ⟨b, 0, none⟩) o c s) (n - o) (c - o))) (hy : ev E y = some (.slice base m cy)) (ht : Z1s C.P t = some e) (hs : Z1u C.P e = some s)
    (hT : Take (some b, .cells (arr f xs j).toArray e (0, 0)) H R) (hsrc : ∀ w, Inv C.w0 C.M w H → RS w [] f s base m cy ys)
    (kk : TO C ops Q l ((d, .int .i64 ((min (xs.drop o).length ys.length : Nat) : Int)) :: E) ((some b, .cells (arr f (xs.take o ++ cpy (xs.drop o) ys) j).toArray e (0, 0)) :: R)) : TO C ops Q (i :: l) E H := by
  refine Zeq ho hg (by simp) fun a w hfit hi => ?_
  have hr := hsrc w hi
  have hm := hr.len
  have hrun : (execOp a.eval ⟨some d, .call ⟨.builtin .copy, #[x, y], #[t, t']⟩, ty, pos, af, g⟩).run C.P w = ((Builtin.copy_ #[t, t'] ty #[.slice (Zld (some ⟨b, 0, none⟩) o c s) (n - o) (c - o), .slice base m cy]).run C.P w).andThen fun v w' => .ok (.value v) w' := by
    simp [execOp, resolve, invoke, builtin, hfit.ev hx, hfit.ev hy]
  rw [hrun]
  have htk := (hr.ro.take (m := min m (n - o)) (Nat.min_le_left _ _)).first (P := C.P) (w := w) cy
  have hfc : (Builtin.firstCells s (min m (n - o)) (.slice base m cy)).run C.P w = .ok ((ys.take (min m (n - o))).flatMap f).toArray w := by
    have : (Builtin.firstCells s (min m (n - o)) (.slice base m cy)).run C.P w = (Builtin.firstCells s (min m (n - o)) (.slice base (min m (n - o)) cy)).run C.P w := by cases base <;> rfl
    rw [this]; exact htk
  have emin : min m (n - o) = min (xs.drop o).length ys.length := by rw [List.length_drop, hn, hm, Nat.min_comm]
  have etk : ys.take (min m (n - o)) = ys.take (xs.length - o) := by
    rw [hn]
    by_cases h : n - o ≤ m
    · rw [Nat.min_eq_right h]
    · rw [Nat.min_eq_left (by omega), List.take_of_length_le (by omega), List.take_of_length_le (by omega)]
  rw [etk] at hfc
  have hb := hi.own b _ hT.mem
  have hvl : ((ys.take (xs.length - o)).flatMap f).length ≤ (xs.length - o) * s := by
    rw [Z2i hf, List.length_take]
    exact Nat.mul_le_mul_right s (Nat.min_le_left _ _)
  have hall : ∀ u, u ∈ (ys.take (xs.length - o)).flatMap f → u.oneCell' = true := by
    intro u hu
    obtain ⟨z, _, hz⟩ := List.mem_flatMap.1 hu
    exact List.all_eq_true.1 (h1 z) u hz
  have hfit2 : o * s + ((ys.take (xs.length - o)).flatMap f).length ≤ (arr f xs j).toArray.size := by
    simp only [List.size_toArray, arr, List.length_append, Z2i hf xs]
    have : o * s + (xs.length - o) * s = xs.length * s := by rw [← Nat.add_mul]; congr 1; omega
    omega
  have hcc := Zow hf xs ys j o ho'
  have hrun2 : (Builtin.copy_ #[t, t'] ty #[.slice (Zld (some ⟨b, 0, none⟩) o c s) (n - o) (c - o), .slice base m cy]).run C.P w = .ok (goInt (min m (n - o) : Nat)) (w.setRow b (arr f (xs.take o ++ cpy (xs.drop o) ys) j).toArray) := by
    have hfc2 := hfc
    simp only [Nat.min_def] at hfc2
    by_cases hco : c = o
    · have hno : n - o = 0 := by omega
      have h0 : (ys.take (xs.length - o)).flatMap f = [] := by rw [show xs.length - o = 0 by omega]; rfl
      have hst := run_storeCells_at C.P b 0 e [] 0 (arr f xs j).toArray w hb (by simp) (by simp)
      simp only [Nat.add_zero, List.take_zero, List.nil_append, List.length_nil, List.drop_zero] at hst
      rw [h0] at hfc2 hcc
      simp only [List.append_nil, List.length_nil, Nat.add_zero, List.take_append_drop] at hcc
      rw [← hcc]
      simp [Builtin.copy_, run_underlying (Z43 ht), Builtin.lenOf, Z5h hs, Nat.min_def, hfc2, Zld, hco, hst]
    · have hst := run_storeCells_at C.P b (o * s) e ((ys.take (xs.length - o)).flatMap f) 0 (arr f xs j).toArray w hb (by simpa using hfit2) hall
      simp only [Nat.add_zero] at hst
      rw [hcc] at hst
      simp [Builtin.copy_, run_underlying (Z43 ht), Builtin.lenOf, Z5h hs, Nat.min_def, hfc2, Zld, hco, Addr.add_mid, hst]
  rw [hrun2]
  simp only [Result.andThen_ok]
  refine kk _ _ ?_ ?_
  · have := hfit.put hd (goInt (min m (n - o) : Nat)); rw [emin] at this ⊢; exact this
  · exact hi.setRow hT
end rules
end Go.Acq
namespace Go.Acq
open Go Go.RowKit Go.ChangeShapes Go.WideShapes Go.Deep Go.Joins
section
variable {H : Type} {enc : TypeId × Value → H} {P : Program} {w : World} {base : Nat} {spare : Nat → Bool} {held : Bool}
theorem Ze2 {t e : TypeId} {fs : Array Field} {fuel : Nat} {cs : List Value} {x : DataW H × List MemPlace} (ht : P.underlying t = some (.slice e)) (he : P.underlying e = some (.struct fs))
    (hone : oneCellFields P fs = true) (hC : P.cellsOf e = fs.size) (h : DataW.trod enc P w base spare held fuel t cs = some x) :
    (cs = [.slice none 0 0] ∧ x = (.nil, [])) ∨
    ∃ (a : Addr) (len cap m : Nat) (D : Nat → DataW H) (Pl : Nat → List MemPlace), cs = [.slice (some a) len cap] ∧ base ≤ a.block ∧ len ≤ cap ∧ cap ≤ maxLen ∧ m = (if spare a.block then cap else len) ∧
      x = (.slice ((List.range len).map D) ((List.range (m - len)).map fun j => D (len + j)), MemPlace.row a (m * fs.size) ++ (List.range m).flatMap Pl) ∧
      ∀ i, i < m → ∃ (ys : List (DataW H × List MemPlace)) (n : Nat), D i = .agg (ys.map (·.1)) ∧ Pl i = ys.flatMap (·.2) ∧ ys.length = fs.size ∧
        ∀ (j : Nat) (f : Field), fs[j]? = some f → ∃ (v : Value) (y : DataW H × List MemPlace), w.cell? (a.add (i * fs.size + j)) = some v ∧ ys[j]? = some y ∧ DataW.trod enc P w base spare held n f.type [v] = some y := by
  rcases open_slice ht h with h0 | ⟨a, len, cap, m, n, D, Pl, hcs, hb, hl, hm, hmm, hx, hi⟩
  · exact .inl h0
  · refine .inr ⟨a, len, cap, m, D, Pl, hcs, hb, hl, hm, hmm, by rw [hC] at hx; exact hx, fun i him => ?_⟩
    obtain ⟨cs', hc, ht'⟩ := hi i him
    rw [hC] at hc
    obtain ⟨ys, n', hn', hy, hlen, hyl, hf⟩ := DataW.trod_struct he ht'
    obtain ⟨_, hcl, hat⟩ := World.cells?_some hc
    simp only [Prod.mk.injEq] at hy
    refine ⟨ys, n', hy.1, hy.2, hyl, fun j f hj => ?_⟩
    obtain ⟨ho, hk⟩ := hone_of hone j f hj
    have hjl : j < fs.size := (Array.getElem?_eq_some_iff.1 hj).1
    have hcell := hat j hjl
    have hv : cs'[j]? = some (cs'[j]'(by omega)) := List.getElem?_eq_getElem (by omega)
    have h1 := hf j f hj
    rw [ho, hk] at h1
    have hone' : (cs'.drop j).take 1 = [cs'[j]'(by omega)] := by
      rw [List.drop_eq_getElem_cons (by omega)]
      rfl
    rw [hone'] at h1
    have hys : ys[j]? = some (ys[j]'(by omega)) := List.getElem?_eq_getElem (by omega)
    refine ⟨_, _, ?_, hys, h1.trans hys⟩
    rw [← Go.Deep.add_add, hcell, hv]
end
section
variable {H : Type} {enc : TypeId × Value → H} {P : Program} {w : World} {base : Nat} {spare : Nat → Bool} {held : Bool}
def fitI (x : Int) : Prop := -9223372036854775808 ≤ x ∧ x ≤ 9223372036854775807
theorem Zkq {x : Int} (h : (Lit.int .i64 x).wf = true) : fitI x := by
 unfold fitI; simp [Lit.wf, IntKind.min, IntKind.max, IntKind.signed, IntKind.bits] at h; omega
theorem open_arcs {t e : TypeId} {fs : Array Field} {f0 f1 f2 : Field} {fuel : Nat} {v : Value} {x : DataW H × List MemPlace} (ht : P.underlying t = some (.slice e)) (he : P.underlying e = some (.struct fs)) (hfs : fs = #[f0, f1, f2])
    (hone : oneCellFields P fs = true) (hC : P.cellsOf e = fs.size) (k0 : P.underlying f0.type = some (.int .i64)) (k1 : P.underlying f1.type = some (.int .i64)) (k2 : P.underlying f2.type = some (.int .i64))
    (h : DataW.trod enc P w base spare held fuel t [v] = some x) :
    ∃ (b : Option Addr) (n c : Nat) (al : List Arc), v = .slice b n c ∧ RO w Z4g 3 b n al ∧ n ≤ c ∧ n ≤ 9223372036854775807 ∧ ∀ a, a ∈ al → fitI a.fr ∧ fitI a.to ∧ fitI a.cap := by
  rcases Ze2 ht he hone hC h with ⟨hcs, _⟩ | ⟨a, l, c, m, D, Pl, hcs, _, hl, hm, hmm, _, hi⟩
  · injection hcs with h1 _
    exact ⟨none, 0, 0, [], h1, Zq2 w (fun _ => rfl), Nat.le_refl _, by omega, fun y hy => by cases hy⟩
  · injection hcs with h1 _
    have hlm : l ≤ m := by rw [hmm]; split <;> omega
    have key : ∀ i, i < l → ∃ q : Arc, w.cell? (a.add (i * 3 + 0)) = some (.int .i64 q.fr) ∧ w.cell? (a.add (i * 3 + 1)) = some (.int .i64 q.to) ∧ w.cell? (a.add (i * 3 + 2)) = some (.int .i64 q.cap) ∧ fitI q.fr ∧ fitI q.to ∧ fitI q.cap := by
      intro i hil
      obtain ⟨ys, n, _, _, _, hf⟩ := hi i (by omega)
      subst hfs
      obtain ⟨v0, y0, c0, _, t0⟩ := hf 0 f0 rfl
      obtain ⟨v1, y1, c1, _, t1⟩ := hf 1 f1 rfl
      obtain ⟨v2, y2, c2, _, t2⟩ := hf 2 f2 rfl
      obtain ⟨n0, e0, _, w0⟩ := DataW.trod_int k0 t0
      obtain ⟨n1, e1, _, w1⟩ := DataW.trod_int k1 t1
      obtain ⟨n2, e2, _, w2⟩ := DataW.trod_int k2 t2
      injection e0 with e0 _; injection e1 with e1 _; injection e2 with e2 _
      subst e0; subst e1; subst e2
      exact ⟨⟨n0, n1, n2⟩, c0, c1, c2, Zkq w0, Zkq w1, Zkq w2⟩
    let g : Nat → Arc := fun i => if hil : i < l then Classical.choose (key i hil) else default
    have hg : ∀ i (hil : i < l), g i = Classical.choose (key i hil) := fun i hil => by simp only [g, dif_pos hil]
    refine ⟨some a, l, c, (List.range l).map g, h1, ⟨by simp, (fun e => by cases e), arcC_len, fun o q ho hq x hx => ?_⟩, hl, by unfold maxLen at hm; omega, fun y hy => ?_⟩
    · simp only [List.length_map, List.length_range] at ho
      have hs := Classical.choose_spec (key o ho)
      rw [← hg o ho] at hs
      have hxo : x = g o := by
        rw [List.getElem?_map, List.getElem?_range ho] at hx
        simpa using hx.symm
      subst hxo
      rcases (show q = 0 ∨ q = 1 ∨ q = 2 by omega) with rfl | rfl | rfl
      · exact hs.1
      · exact hs.2.1
      · exact hs.2.2.1
    · obtain ⟨i, hil, rfl⟩ := List.mem_map.1 hy
      have hil := List.mem_range.1 hil
      have hs := Classical.choose_spec (key i hil)
      rw [← hg i hil] at hs
      exact hs.2.2.2
end
end Go.Acq
namespace Go.Acq
open Go Go.RowKit Go.ChangeShapes Go.WideShapes Go.Deep Go.Joins
theorem i64ok_wf {x : Int} (h : (Lit.int .i64 x).wf = true) : i64ok x := by simp [Lit.wf, IntKind.min, IntKind.max, IntKind.signed, IntKind.bits] at h; omega
section
variable {H : Type} {enc : TypeId × Value → H} {P : Program} {w : World} {base : Nat} {spare : Nat → Bool} {held : Bool}
end
end Go.Acq
namespace Go.Acq
open Go Go.RowKit
abbrev SM := Option Addr × Nat × Nat
def smC (m : SM) : List Value := [.slice m.1 m.2.1 m.2.2]
structure RW {α : Type} (w : World) (M : List Nat) (f : α → List Value) (s : Nat) (base : Option Addr) (n c : Nat) (ms : List SM) (xss : List (List α)) : Prop where
  rs : RS w M smC 1 base n c ms
  eqlen : ms.length = xss.length
  row : ∀ i, i < ms.length → RS w M f s (ms.getD i default).1 (ms.getD i default).2.1 (ms.getD i default).2.2 (xss.getD i [])
section
variable {α : Type} {w w0 : World} {M M' : List Nat} {f : α → List Value} {s n c : Nat} {base : Option Addr} {ms : List SM} {xss : List (List α)} {H Hm R : Heap}
theorem RW.len (h : RW w M f s base n c ms xss) : xss.length = n := by rw [← h.eqlen]; exact h.rs.len
theorem RW.cap (h : RW w M f s base n c ms xss) : n ≤ c := h.rs.cap
theorem RW.nil (w : World) (M : List Nat) : RW w M f s none 0 0 [] ([] : List (List α)) := ⟨RS.nil _ _ (fun _ => rfl), rfl, fun i hi => by simp at hi⟩
theorem RW.mono (h : RW w0 M f s base n c ms xss) (hi : Inv w0 M w H) : RW w [] f s base n c ms xss := ⟨h.rs.mono hi, h.eqlen, fun i hl => (h.row i hl).mono hi⟩
theorem RW.monoM (h : RW w0 M f s base n c ms xss) (hs : 0 < s) (hi : Inv w0 M w H) (hp : List.Perm H (Hm ++ R)) (hM : Hm.filterMap (·.1) = M') : RW w M' f s base n c ms xss :=
 ⟨h.rs.monoM (by decide) hi hp hM, h.eqlen, fun i hl => (h.row i hl).monoM hs hi hp hM⟩
theorem Zja {α : Type} {xs : List α} {d : α} {i k : Nat} (h : i < k) : (xs.take k).getD i d = xs.getD i d := by
 simp [List.getD_eq_getElem?_getD, List.getElem?_take, h]
theorem Zjb {α : Type} {xs : List α} {d : α} {i k : Nat} : (xs.drop k).getD i d = xs.getD (k + i) d := by
 simp [List.getD_eq_getElem?_getD]
theorem RW.take (h : RW w M f s base n c ms xss) {p : Int} (hp : 0 ≤ p ∧ p ≤ (xss.length : Int)) : RW w M f s base p.toNat c (ms.take p.toNat) (xss.take p.toNat) :=
 ⟨h.rs.take (by rw [h.eqlen]; exact hp), by rw [List.length_take, List.length_take, h.eqlen], fun i hi => by
  rw [List.length_take] at hi
  rw [Zja (by omega), Zja (by omega)]; exact h.row i (by omega)⟩
theorem RW.drop (h : RW w M f s base n c ms xss) {p : Int} (hp : 0 ≤ p ∧ p ≤ (xss.length : Int)) : RW w M f s (Zld base p.toNat c 1) (n - p.toNat) (c - p.toNat) (ms.drop p.toNat) (xss.drop p.toNat) :=
 ⟨h.rs.drop (by rw [h.eqlen]; exact hp), by rw [List.length_drop, List.length_drop, h.eqlen], fun i hi => by
  rw [List.length_drop] at hi
  rw [Zjb, Zjb]; exact h.row _ (by omega)⟩
theorem RW.at (h : RW w M f s base n c ms xss) {p : Int} (hp : inb p xss.length) : RS w M f s (ms.getD p.toNat default).1 (ms.getD p.toNat default).2.1 (ms.getD p.toNat default).2.2 (xss.getD p.toNat []) :=
 h.row _ (by rw [h.eqlen]; exact Zba hp)
theorem RW.inb (h : RW w M f s base n c ms xss) {p : Int} (hp : inb p xss.length) : inb p ms.length := by rw [h.eqlen]; exact hp
end
section rules
variable {C : Cx} {ops : Array Oper} {Q : Exit → Act → World → Prop} {l : List Nat} {E : Env} {H R : Heap} {i d : Nat} {ty : TypeId} {pos : String} {af : Array Edge} {g : Option (Nat × Bool)}
end rules
open Go.ChangeShapes Go.WideShapes Go.Deep Go.Joins
section
variable {H : Type} {enc : TypeId × Value → H} {P : Program} {w : World} {base : Nat} {spare : Nat → Bool} {held : Bool}
end
end Go.Acq
namespace Go.Acq
open Go Go.RowKit
theorem X.obEd {C : Cx} {ops : Array Oper} {Q : Exit → Act → World → Prop} {S : List Sp} {HR : Nat → List Value → Heap → Prop} {W Es B B' : Env} {Hc Hx : Heap} {i k d : Nat} {v : Value} {vl : List Value} {F : Value → List Value} {De hb' H' : Heap} (hs : Z47 ops i = some d) (hr : Zm9 S i vl v []) (hh : HR k (F v) hb')
    (hH : Pick (hb' ++ (Hc ++ (De ++ Hx))) H') (hB : B = B') :
    X C (fun e a w => match e with
      | .normal => ∃ v hb', Zm9 S i vl v [] ∧ HR k (F v) hb' ∧ Fits C.n C.D (putG (Z47 ops i) v (B ++ (W ++ Es))) a ∧ Inv C.w0 C.M w (hb' ++ (Hc ++ (De ++ Hx)))
      | e => Q e a w) .normal ((d, v) :: (B' ++ (W ++ Es))) H' := by
  subst hB
  exact fun _ _ hf hi => ⟨v, hb', hr, hh, by rw [hs]; exact hf, hi.pick hH⟩
end Go.Acq
namespace Go.Acq
open Go Go.RowKit
end Go.Acq
namespace Go.Acq
open Go Go.RowKit Go.ChangeShapes Go.WideShapes Go.Deep Go.Joins
section
variable {H : Type} {enc : TypeId × Value → H} {P : Program} {w : World} {base : Nat} {spare : Nat → Bool} {held : Bool}
end
end Go.Acq
namespace Go.Acq
open Go Go.RowKit
abbrev ids (H : Heap) : List Nat := H.filterMap (·.1)
abbrev mkD (r : Nat) : Deferred := { target := .collected r, args := #[] }
abbrev mkO : Obj := .deferred (some [])
def markH : List Nat → Heap
  | [] => []
  | r :: ms => (some r, mkO) :: markH ms
section
variable {w0 w w' w'' : World} {M M' : List Nat} {H H' Hm R : Heap} {b : Nat} {o o' : Obj}
theorem Pick.skip {p : Option Nat × Obj} (h : Pick H' H) : Pick H' (p :: H) := by
 obtain ⟨S, ns, hn, hS⟩ := h
 refine ⟨p :: S, ns, hn, ?_⟩
 rw [List.cons_append]
 exact (List.Perm.cons p hS).trans List.perm_middle.symm
theorem Inv.put (h : Inv w0 M w ((some b, o) :: R)) (o' : Obj) : Inv w0 M (w.putObj b o') ((some b, o') :: R) :=
 h.upd (Take.head _ _) rfl rfl rfl World.putObj_size (World.putObj_heap_same (h.lt (.head _))) (fun _ hk => World.putObj_heap_other hk)
theorem HB.monoM {cs : List Value} (h : HB w0 M b cs) (hne : cs ≠ []) (hi : Inv w0 M w H) (hp : List.Perm H (Hm ++ R)) (hM : Hm.filterMap (·.1) = M') : HB w M' b cs :=
 ⟨fun j v hj => hi.cell_old (h.has j v hj) h.far, fun hm => by
  subst hM
  obtain ⟨o, ho⟩ := Z8y hm
  obtain ⟨v, cs', rfl⟩ := List.exists_cons_of_ne_nil hne
  have h0 := h.has 0 v rfl
  have hb : b < w0.heap.size := by
   unfold World.cell? at h0
   split at h0
   · rename_i he; exact (Array.getElem?_eq_some_iff.1 he).1
   · cases h0
  rcases hi.low b o ((List.Perm.mem_iff hp).2 (List.mem_append_left _ ho)) with hl | hl
  · omega
  · exact h.far hl⟩
end
def YC {S X V : Type} (P : Program) (l : Nat) (enc : V → List Value) (y : S → V → Option (S ⊕ X)) (J : S ⊕ X → Heap → Prop) (w : World) (M : List Nat) : Prop :=
  ∀ (s : S) (v : V) (r : S ⊕ X), y s v = some r → ∀ (w' : World) (Hs : Heap), J (.inl s) Hs → Inv w M w' Hs →
    YieldAt (FW none) 0 P l (enc v).toArray w' fun e w'' => ∃ Hs', J r Hs' ∧ e = .returned (.bool r.isLeft) ∧ Inv w' (ids Hs) w'' Hs'
section rules
variable {C : Cx} {ops : Array Oper} {Q : Exit → Act → World → Prop} {l : List Nat} {E : Env} {H R : Heap} {i d : Nat} {ty : TypeId} {pos : String} {af : Array Edge} {g : Option (Nat × Bool)}
theorem TO.yield {S X V : Type} {lp : Nat} {enc : V → List Value} {y : S → V → Option (S ⊕ X)} {J : S ⊕ X → Heap → Prop} {x : Operand} {xs : Array Operand} {at' : Array TypeId} {t r : S ⊕ X} {v : V} {Ho Hs : Heap}
    (hρ : C.ρ = none) (hY : YC C.P lp enc y J C.w0 C.M) (hr : Zl4 y t v = some r) (hJ : J t Hs)
    (ho : ops[i]? = some ⟨some d, .call ⟨.value x, xs, at'⟩, ty, pos, af, g⟩) (hg : gdB ops E g = true) (hd : Nat.ble (d + 1) C.n = true)
    (hx : ev E x = some (.func (.yield lp) #[] #[])) (hxs : evs E xs.toList = some (enc v)) (hH : H = Ho ++ Hs)
    (kk : ∀ Hs', J r Hs' → TO C ops Q l ((d, .bool r.isLeft) :: E) (Ho ++ Hs')) : TO C ops Q (i :: l) E H := by
  obtain ⟨s, rfl, hys⟩ := Zkf hr
  refine Zeq ho hg (by simp) fun a w hf hi => ?_
  subst hH
  have hp : List.Perm (Ho ++ Hs) (Hs ++ Ho) := List.perm_append_comm
  have hi' := hi.perm hp
  obtain ⟨fn, tmps, assign, body, hrun, hround⟩ := hY s v r hys w Hs hJ hi'.left
  have e1 : xs.map a.eval = (enc v).toArray := by apply Array.ext'; simpa using Z9v hf hxs
  have : (execOp a.eval ⟨some d, .call ⟨.value x, xs, at'⟩, ty, pos, af, g⟩).run C.P w = .ok (.round lp fn tmps assign body) w := by
    simp [execOp, resolve, Deferred.ofValue, invoke, hf.ev hx, e1, hrun]
  rw [this]
  rw [Oper.uponIn_round]
  rw [hρ]
  refine ⟨by simp [FW], hround.mono ?_⟩
  rintro e w' ⟨Hs', hJ', rfl, hi2⟩
  have hk := kk Hs' hJ'
  unfold TO at hk
  rw [hρ] at hk
  exact hk _ _ (hf.put hd _) (((hi'.join (List.Perm.refl _) (fun m hm => hm) hi2)).perm List.perm_append_comm)
end rules
abbrev recO (fn : FuncId) (tmps : Array Value) (ps : Array Tmp) (assign body : Code) (df : Nat) (st : LoopState) (pd : Option Code) : Obj :=
  .loop { state := st, pending := pd, fn, tmps, params := ps, assign, body, defers := df }
def RQ {S X : Type} (J : S ⊕ X → Heap → Prop) (jmp : X → Code) (r : S ⊕ X) (w0 : World) (M : List Nat) : Exit → Act → World → Prop
  | .normal, _, w => ∃ s Hs, r = .inl s ∧ J (.inl s) Hs ∧ Inv w0 M w Hs
  | .ret, _, w => ∃ x Hs, r = .inr x ∧ jmp x = .ret ∧ J (.inr x) Hs ∧ Inv w0 M w Hs
  | .exit id, _, w => ∃ x Hs, r = .inr x ∧ jmp x = .exit id ∧ J (.inr x) Hs ∧ Inv w0 M w Hs
  | _, _, _ => False
def putPs : List Tmp → List Value → Env → Env
  | [], _, E => E
  | _ :: _, [], E => E
  | p :: ps, v :: vs, E => putPs ps vs ((p, v) :: E)
theorem Zgp {n : Nat} : ∀ {ps : List Tmp} {vs : List Value} {E : Env} {tmps : Array Value} (_ : ps.all (fun p => Nat.ble (p + 1) n) = true), Fits n [] E { tmps, defers := [] } →
    Fits n [] (putPs ps vs E) { tmps := (ps.zip vs).foldl (fun tmps (t, a) => tmps.setIfInBounds t a) tmps, defers := [] }
  | [], _, _, _, _, h => h
  | _ :: _, [], _, _, _, h => h
  | p :: ps, v :: vs, E, tmps, hb, h => by
    have hb' : Nat.ble (p + 1) n = true ∧ (ps.all fun p => Nat.ble (p + 1) n) = true := by simpa only [List.all_cons, Bool.and_eq_true] using hb
    have := h.put hb'.1 v
    exact Zgp (ps := ps) (vs := vs) hb'.2 this
section control
variable {C : Cx} {Q : Exit → Act → World → Prop} {E : Env} {H : Heap}
def AQ (n : Nat) (w0 : World) (M : List Nat) (E1 : Env) (H1 : Heap) : Exit → Act → World → Prop := fun e a w => e = .normal ∧ Fits n [] E1 a ∧ Inv w0 M w H1
theorem X.asg {ρ : Option Nat} {P : Program} {n : Nat} {w0 : World} {M : List Nat} {E1 : Env} {H1 : Heap} (hE : AllF E1 E) (hH : Pick H1 H) : X ⟨P, ρ, n, [], w0, M⟩ (AQ n w0 M E1 H1) .normal E H :=
 fun _ _ hf hi => ⟨rfl, hf.weak hE.sub, hi.pick hH⟩
theorem Zlo {ρ : Option Nat} {P : Program} {n : Nat} {D : List Deferred} {S X : Type} {J : S ⊕ X → Heap → Prop} {jmp : X → Code} {r : S ⊕ X} {w0 : World} {M : List Nat} {s : S} {Hs : Heap} (h : some (Sum.inl s) = some r) (hJ : J (.inl s) Hs) (hp : Pick Hs H) :
    Acq.X ⟨P, ρ, n, D, w0, M⟩ (RQ J jmp r w0 M) .normal E H := fun _ _ _ hi => ⟨s, Hs, by injection h with h; exact h.symm, hJ, hi.pick hp⟩
theorem T.rangeFunc {S X V : Type} (hρ : C.ρ = none) {gop : Operand} {ps : Array Tmp} {assign body : Code} {f : FuncId} {fs cs : Array Value} (hF : Z0t C.P f = true) (hg : ev E gop = some (.func (.func f) fs cs))
    (hps : ps.toList.all (fun p => Nat.ble (p + 1) C.n) = true) (enc : V → List Value) (henc : ∀ v, (enc v).length = ps.size)
    (y : S → V → Option (S ⊕ X)) (J : S ⊕ X → Heap → Prop) (jmp : X → Code) (s0 : S) (t : S ⊕ X) (Hs0 R : Heap) (hJ : J (.inl s0) Hs0) (hH : Pick (Hs0 ++ R) H)
    (it : ∀ (lp : Nat) (w : World) (J' : S ⊕ X → Heap → Prop) (H0 : Heap), J' (.inl s0) H0 → Inv w (ids H0) w H0 → YC C.P lp enc y J' w (ids H0) → ∀ lo, Inv C.w0 C.M w (((some lp, lo) :: Hs0) ++ R) → H0 = (some lp, lo) :: Hs0 →
      Fnc C.P f (fs ++ #[.func (.yield lp) #[] #[]] ++ cs) w (ids H0) (fun v N => v = .tuple #[] ∧ J' t N))
    (round : ∀ (lp : Nat) (w' : World) (s : S) (v : V) (r : S ⊕ X) (Hs : Heap), y s v = some r → J (.inl s) Hs → Inv w' (ids Hs) w' Hs → Inv C.w0 C.M w' (Hs ++ R) →
      ∃ (E1 : Env) (H1 : Heap), T ⟨C.P, some lp, C.n, [], w', ids Hs⟩ assign (AQ C.n w' (ids Hs) E1 H1) (putPs ps.toList (enc v) E) Hs ∧
        ∀ w2, Inv w2 (ids H1) w2 H1 → Inv C.w0 C.M w2 (H1 ++ R) → T ⟨C.P, some lp, C.n, [], w2, ids H1⟩ body (RQ J jmp r w2 (ids H1)) E1 H1)
    (next : ∀ s, t = .inl s → ∀ rr Hs, J (.inl s) Hs → Acq.X { C with D := mkD rr :: C.D } Q .normal E (Hs ++ ((some rr, mkO) :: R)))
    (exit : ∀ x, t = .inr x → ∀ rr Hs, J (.inr x) Hs → T { C with D := mkD rr :: C.D } (jmp x) Q E (Hs ++ ((some rr, mkO) :: R))) :
    T C (.rangeFunc gop ps assign body) Q E H := by
  intro a w hf hi0
  have hi := hi0.pick hH
  refine wpIn_rangeFunc fun fn _ => ?_
  have hFW : (FW C.ρ).round = none := by rw [hρ]; rfl
  rw [hFW]
  obtain ⟨rr, hrr⟩ : ∃ rr, w.heap.size = rr := ⟨_, rfl⟩
  obtain ⟨wa, hwa⟩ : ∃ wa, w.alloc mkO = wa := ⟨_, rfl⟩
  obtain ⟨lp, hlp⟩ : ∃ lp, wa.heap.size = lp := ⟨_, rfl⟩
  obtain ⟨lo, hlo⟩ : ∃ lo, recO fn a.tmps ps assign body rr .ready none = lo := ⟨_, rfl⟩
  obtain ⟨wb, hwb⟩ : ∃ wb, wa.alloc lo = wb := ⟨_, rfl⟩
  have hia : Inv C.w0 C.M wa ((some rr, mkO) :: (Hs0 ++ R)) := by rw [← hwa, ← hrr]; exact hi.alloc mkO
  have hib : Inv C.w0 C.M wb ((some lp, lo) :: (some rr, mkO) :: (Hs0 ++ R)) := by rw [← hwb, ← hlp]; exact hia.alloc lo
  have hlp2 : w.heap.size + 1 = lp := by rw [← hlp, ← hwa]; exact (World.size_alloc ..).symm
  have hib' : Inv C.w0 C.M wb (((some lp, lo) :: Hs0) ++ ((some rr, mkO) :: R)) := hib.perm (by
    rw [List.cons_append]
    exact List.Perm.cons _ List.perm_middle.symm)
  refine ⟨lp, [mkD rr], wb, { target := .fn (.func f) cs, args := fs.push (.func (.yield lp) #[] #[]) }, wb, f, fs ++ #[.func (.yield lp) #[] #[]] ++ cs, wb, ?_, ?_, fun _ _ => trivial, ?_, by simp [FW], ?_⟩
  · rw [run_enterLoop_outer, ← hwb, ← hlo, ← hwa, ← hlp2, ← hrr]
  · have h2 : a.eval gop = .func (.func f) fs cs := hf.ev hg
    have h3 : ∀ v, a.eval (.const v) = v := fun _ => rfl
    simp [resolve, Deferred.ofValue, h2, h3]
  · show (callFunc f (fs.push (.func (.yield lp) #[] #[]) ++ cs)).run C.P wb = _
    rw [Array.push_eq_append]
    exact Z88 hF _ _
  · refine callsIn_FW.2 ?_
    have hlrec : ∀ {w' : World} {M'' : List Nat} {o : Obj} {Hs : Heap}, Inv wb M'' w' ((some lp, o) :: Hs) → w'.heap[lp]? = some o := fun h => h.own lp _ (.head _)
    have hcall := it lp wb (fun r Hx => ∃ Hs, Hx = (some lp, recO fn a.tmps ps assign body rr (match r with | .inl _ => LoopState.ready | .inr _ => LoopState.done) (match r with | .inl _ => none | .inr x => some (jmp x))) :: Hs ∧ J r Hs) ((some lp, lo) :: Hs0)
      ⟨Hs0, by rw [← hlo], hJ⟩ (hib'.left.self (Z0a _) rfl) ?_ lo (hib'.pick (by
        refine Za0 (S := [(some rr, mkO)]) ?_
        rw [List.append_assoc]
        exact List.Perm.append_left _ (List.perm_append_singleton _ _).symm)) rfl
    · refine Calls.mono hcall ?_
      rintro e w3 ⟨v, N, ⟨rfl, Hs3, rfl, hJ3⟩, rfl, hi3⟩
      have hj3 := hib'.join (M' := ids ((some lp, lo) :: Hs0)) (List.Perm.refl _) (fun m hm => hm) hi3
      have hl3 := hj3.own lp _ (.head _)
      have hput := hj3.put (recO fn a.tmps ps assign body rr .exhausted (match t with | .inl _ => none | .inr x => some (jmp x)))
      have hfa : Fits C.n (mkD rr :: C.D) E { a with defers := [mkD rr] ++ a.defers } := ⟨hf.size, by simp [hf.defers], hf.get⟩
      have hpk : Pick (Hs3 ++ ((some rr, mkO) :: R)) ((some lp, recO fn a.tmps ps assign body rr .exhausted (match t with | .inl _ => none | .inr x => some (jmp x))) :: (Hs3 ++ ((some rr, mkO) :: R))) := Pick.skip (Z0a _)
      cases t with
      | inl s =>
        refine ⟨none, _, run_endLoop hl3 (by simp), ?_⟩
        exact next s rfl rr Hs3 hJ3 _ _ hfa (hput.pick hpk)
      | inr x =>
        refine ⟨some (jmp x), _, run_endLoop hl3 (by simp), ?_⟩
        exact exit x rfl rr Hs3 hJ3 _ _ hfa (hput.pick hpk)
    · rintro s v r hys w' Hx ⟨Hs, rfl, hJs⟩ hi'
      have hlw := hlrec hi'
      have hout := hib'.join (M' := ids ((some lp, lo) :: Hs0)) (List.Perm.refl _) (fun m hm => hm) hi'
      have hself := hi'.self (Hm := Hs) (Pick.skip (Z0a _)) rfl
      have houtH : Inv C.w0 C.M w' (Hs ++ R) := hout.pick (by
        refine Pick.skip ?_
        refine Za0 (S := [(some rr, mkO)]) ?_
        rw [List.append_assoc]
        exact List.Perm.append_left _ (List.perm_append_singleton _ _).symm)
      obtain ⟨E1, H1, hasg, hbody⟩ := round lp w' s v r Hs hys hJs hself houtH
      refine ⟨_, _, _, _, run_yield hlw (by simp [henc]), ?_⟩
      refine roundIn_of_wpIn trivial ?_
      have hf0 : Fits C.n [] E { tmps := a.tmps, defers := [] } := ⟨hf.size, rfl, hf.get⟩
      have hf1 := Zgp (vs := enc v) hps hf0
      have hw0 := hasg _ w' hf1 hself
      have hrw : (ps.zip (enc v).toArray).foldl (fun tmps (t, a) => tmps.setIfInBounds t a) a.tmps = (ps.toList.zip (enc v)).foldl (fun tmps (t, a) => tmps.setIfInBounds t a) a.tmps := by
        rw [← Array.foldl_toList]; simp
      rw [hrw]
      refine wpIn_mono (F := FW (some lp)) hw0 ?_
      rintro e a1 w1 ⟨rfl, hfa, hia1⟩
      have hall := (hi'.self (Z0a _) rfl)
      have hall1 := hall.join (Hm := Hs) (R := [(some lp, recO fn a.tmps ps assign body rr .ready none)]) (M' := ids Hs) ((List.perm_append_singleton _ _).symm) (fun m hm => hm) hia1
      have hall1 := hall1.perm (List.perm_append_singleton _ _)
      have hl1 := hall1.own lp _ (.head _)
      refine ⟨_, run_beginRound hl1 rfl, ?_⟩
      have hb1 := hall1.put (recO fn a.tmps ps assign body rr .busy none)
      have hout1 := hout.join (M' := ids ((some lp, recO fn a.tmps ps assign body rr .ready none) :: Hs)) (List.Perm.refl _) (fun m hm => hm) hall1
      have hout2 := hout1.put (recO fn a.tmps ps assign body rr .busy none)
      have hs2 := hb1.self (Hm := H1) (Pick.skip (Z0a _)) rfl
      have hwp := hbody _ hs2 (hout2.pick (by
        refine Pick.skip ?_
        refine Za0 (S := [(some rr, mkO)]) ?_
        rw [List.append_assoc]
        exact List.Perm.append_left _ (List.perm_append_singleton _ _).symm)) a1 _ hfa hs2
      refine wpIn_mono (F := FW (some lp)) hwp ?_
      intro e a3 w3 hq
      have fin : ∀ (Hs' : Heap), Inv (w1.putObj lp (recO fn a.tmps ps assign body rr .busy none)) (ids H1) w3 Hs' → w3.heap[lp]? = some (recO fn a.tmps ps assign body rr .busy none) ∧
          ∀ o, Inv w' (ids ((some lp, recO fn a.tmps ps assign body rr .ready none) :: Hs)) (w3.putObj lp o) ((some lp, o) :: Hs') := by
        intro Hs' h
        have h2 := hb1.join (Hm := H1) (R := [(some lp, recO fn a.tmps ps assign body rr .busy none)]) (M' := ids H1) ((List.perm_append_singleton _ _).symm) (fun m hm => hm) h
        have h2 := h2.perm (List.perm_append_singleton _ _)
        exact ⟨h2.own lp _ (.head _), fun o => h2.put o⟩
      cases e with
      | normal =>
        obtain ⟨s', Hs', rfl, hJ', hi3⟩ := hq
        obtain ⟨h3, h4⟩ := fin Hs' hi3
        exact ⟨_, _, run_endRound none h3, _, ⟨Hs', rfl, hJ'⟩, rfl, h4 _⟩
      | ret =>
        obtain ⟨x, Hs', rfl, hj, hJ', hi3⟩ := hq
        obtain ⟨h3, h4⟩ := fin Hs' hi3
        refine ⟨_, _, run_endRound (some .ret) h3, _, ⟨Hs', rfl, hJ'⟩, rfl, ?_⟩
        simp only [hj]; exact h4 _
      | exit id =>
        obtain ⟨x, Hs', rfl, hj, hJ', hi3⟩ := hq
        obtain ⟨h3, h4⟩ := fin Hs' hi3
        refine ⟨_, _, run_endRound (some (.exit id)) h3, _, ⟨Hs', rfl, hJ'⟩, rfl, ?_⟩
        simp only [hj]; exact h4 _
      | goto _ => exact hq.elim
      | panic _ => exact hq.elim
      | outgrown => exact hq.elim
end control
section ends
variable {C : Cx} {E : Env} {H H' N : Heap}
theorem Zef {P : Program} {fn : Func} {tmps : Array Value} {R : Ending → World → Prop} {w0 : World} {M : List Nat} : ∀ (ms : List Nat) (w : World), Inv w0 M w (markH ms ++ H') →
    (∀ w', Inv w0 M w' H' → LeavesIn (FW none) 0 P fn tmps R [] .returning w') → LeavesInM (FW none) 0 P fn tmps R (ms.map mkD) .returning w
  | [], w, hi, h => h w hi
  | r :: ms, w, hi, h => by
    refine ⟨by simp, .inl ⟨r, _, rfl, run_takeDeferred (hi.own r _ (.head _)), Zef ms _ ?_ h⟩⟩
    exact (Inv.put hi (.deferred none)).pick (Pick.skip (Z0a _))
theorem X.retM {fn : Func} {rs : List ResultVar} {vs : List Value} {v : Value} {w0 : World} {M : List Nat} {Post : Value → Heap → Prop} (ms : List Nat) (hρ : C.ρ = none) (hw : C.w0 = w0) (hMM : C.M = M) (hD : C.D = ms.map mkD) (hfn : fn.results.toList = rs)
    (hH : Pick (markH ms ++ H') H) (hr : ∀ (j : Nat) r u, rs[j]? = some r → vs[j]? = some u → Res { C with D := [] } E H' r u) (hl : rs.length = vs.length) (hv : v = Zoo vs)
    (hN : Pick N H') (hP : Post v N) : Acq.X C (bodyPostM (FW none) 0 C.P fn (FncR w0 M Post)) .ret E H := by
  intro a w hf hi
  show LeavesInM (FW none) 0 C.P fn a.tmps (FncR w0 M Post) a.defers .returning w
  rw [hf.defers, hD]
  refine Zef ms w (hi.pick hH) fun w' hi' => ?_
  have hx := X.ret (C := { C with D := [] }) (fn := fn) (Post := Post) hw hMM rfl hfn hr hl hv hN hP { a with defers := [] } w' ⟨hf.size, rfl, hf.get⟩ hi'
  exact hx.2
theorem Zp3 {fn : Func} {r r' : ResultVar} {v v' : Value} {w0 : World} {M : List Nat} {Post : Value → Heap → Prop} (ms : List Nat) (hρ : C.ρ = none) (hw : C.w0 = w0) (hMM : C.M = M) (hD : C.D = ms.map mkD) (hfn : fn.results.toList = [r, r']) (hH : Pick (markH ms ++ H') H) (hr : Res { C with D := [] } E H' r v) (hr' : Res { C with D := [] } E H' r' v') (hN : Pick N H') (hP : Post (.tuple #[v, v']) N) :
    Acq.X C (bodyPostM (FW none) 0 C.P fn (FncR w0 M Post)) .ret E H :=
  X.retM (vs := [v, v']) ms hρ hw hMM hD hfn hH (fun j r'' u h1 h2 => by
    match j with
    | 0 => simp at h1 h2; subst h1; subst h2; exact hr
    | 1 => simp at h1 h2; subst h1; subst h2; exact hr'
    | j + 2 => simp at h1) rfl rfl hN hP
theorem Zo4 {P : Program} {f : FuncId} {fn : Func} {c : Code} {vs : List Value} {w : World} {M : List Nat} {H : Heap} {Post : Value → Heap → Prop}
    (hf : P.funcs[f]? = some fn) (hb : fn.body = some c) (hn : Nat.ble vs.length fn.ntmps = true) (hi : Inv w M w H)
    (h : T ⟨P, none, fn.ntmps, [], w, M⟩ c (bodyPostM (FW none) 0 P fn (FncR w M Post)) (Zgq 0 vs) H) : Fnc P f vs.toArray w M Post := by
  have hn' := Nat.le_of_ble_eq_true hn
  refine callsIn_FW (ρ := none) (n := 0) |>.1 (callsIn_of_wp_marks hf hb trivial ?_ rfl)
  refine h _ w ⟨by simp; omega, rfl, fun t v hv => ?_⟩ hi
  obtain ⟨_, h2⟩ := Zd5 vs 0 t v hv
  rw [Nat.sub_zero] at h2
  have hlt := (List.getElem?_eq_some_iff.1 h2).1
  simp only [Array.getD_eq_getD_getElem?]
  rw [Array.getElem?_append_left (by simpa using hlt)]
  simp [h2]
end ends
end Go.Acq
namespace Go.Acq
open Go Go.RowKit
theorem X.reheap {C : Cx} {Q : Exit → Act → World → Prop} {e : Exit} {E : Env} {H H' : Heap} (h : H' = H) (k : X C Q e E H) : X C Q e E H' := by rw [h]; exact k
end Go.Acq
namespace Go.Acq
open Go Go.RowKit
theorem Zp5 {C : Cx} {P : Program} {fn : Func} {R : Ending → World → Prop} {E : Env} {H : Heap} (h : X C (bodyPost P fn R) .ret E H) : X C (bodyPost P fn R) .normal E H := h
end Go.Acq
namespace Go.Acq
open Go Go.RowKit
section
variable {C : Cx} {ops : Array Oper} {Q : Exit → Act → World → Prop} {l l2 : List Nat} {E E' : Env} {H H' : Heap}
def JQ (C : Cx) (Q : Exit → Act → World → Prop) (d : Nat) (φ : Bool → Prop) (E : Env) (H : Heap) : Exit → Act → World → Prop
  | .normal, a, w => ∃ b, φ b ∧ Fits C.n C.D ((d, .bool b) :: E) a ∧ Inv C.w0 C.M w H
  | e, a, w => Q e a w
theorem Zo8 {ρ : Option Nat} {P : Program} {Q' : Exit → Act → World → Prop} {i : Nat} {K K' : Act → World → Prop} {a : Act} {w : World} (hq : ∀ e a w, e ≠ .normal → Q' e a w → Q e a w) (hk : ∀ a w, K' a w → K a w)
    (h : wpOpIn (FW ρ) 0 P ops Q' i K' a w) : wpOpIn (FW ρ) 0 P ops Q i K a w := by
  refine wpOpIn_mono hk ?_
  unfold wpOpIn at h ⊢
  cases ho : ops[i]? with
  | none => rw [ho] at h; exact h
  | some o =>
    rw [ho] at h
    simp only at h ⊢
    split
    · rename_i hwt
      simp only [hwt, if_true] at h
      refine ⟨h.1, ?_⟩
      have h2 := h.2
      generalize (o.semAt (FW ρ).round a.eval).run P w = r at h2 ⊢
      cases r with
      | ok x w' =>
        cases x with
        | enter f args => exact ⟨h2.1, CallsIn.mono h2.2 (fun e w' hh => by cases e with
          | returned v => exact hh
          | panicked c => exact hq _ _ _ (by simp) hh
          | outgrown => obtain ⟨a0, w0, h0⟩ := hh; exact ⟨a0, w0, hq _ _ _ (by simp) h0⟩)⟩
        | row _ => exact h2
        | round l f tmps assign body => exact ⟨h2.1, RoundIn.mono h2.2 (fun e w' hh => by cases e with
          | returned v => exact hh
          | panicked c => exact hq _ _ _ (by simp) hh
          | outgrown => obtain ⟨a0, w0, h0⟩ := hh; exact ⟨a0, w0, hq _ _ _ (by simp) h0⟩)⟩
        | _ => exact h2
      | halt x w' => cases x <;> first | exact h2 | exact hq _ _ _ (by simp) h2
    · rename_i hwt
      simp only [hwt, if_false, Bool.false_eq_true] at h
      exact h
theorem Zc9 {ρ : Option Nat} {P : Program} {Q' : Exit → Act → World → Prop} {l2 : List Nat} (hq : ∀ e a w, e ≠ .normal → Q' e a w → Q e a w) (hn : ∀ a w, Q' .normal a w → wpOpsIn (FW ρ) 0 P ops Q l2 a w) : ∀ (l1 : List Nat) (a : Act) (w : World), wpOpsIn (FW ρ) 0 P ops Q' l1 a w → wpOpsIn (FW ρ) 0 P ops Q (l1 ++ l2) a w
 | [], a, w, h => hn a w h
 | i :: l1, a, w, h => by
  rw [List.cons_append, wpOpsIn_cons]
  rw [wpOpsIn_cons] at h
  exact Zo8 hq (fun a w => Zc9 hq hn l1 a w) h
theorem TO.join (l1 l2 : List Nat) (hl : l1 ++ l2 = l) (d : Nat) (φ : Bool → Prop) (E' : Env) (h1 : TO C ops (JQ C Q d φ E' H) l1 E H) (h2 : ∀ b, φ b → TO C ops Q l2 ((d, .bool b) :: E') H) : TO C ops Q l E H := by
 subst hl
 intro a w hf hi
 refine Zc9 (Q' := JQ C Q d φ E' H) (fun e a w hne h => ?_) (fun a w h => ?_) l1 a w (h1 a w hf hi)
 · cases e <;> first | exact absurd rfl hne | exact h
 ·
  obtain ⟨b, hb, hfit, hinv⟩ := h
  exact h2 b hb a w hfit hinv
theorem Zke {d : Nat} {φ : Bool → Prop} {b : Bool} (h : φ b) (hE : AllF ((d, .bool b) :: E') E) : X C (JQ C Q d φ E' H) .normal E H := fun _ _ hf hi => ⟨b, h, hf.weak hE.sub, hi⟩
end
end Go.Acq
namespace Go.Acq
open Go Go.RowKit
def Zdz (P : Program) (K : World → Prop) (w : World) (v : Value) : Result Next → Prop
  | .ok (.value u) w' => w' = w ∧ u = v
  | .ok (.enter f args) w' => w' = w ∧ Calls P f args w (fun e w'' => e = .returned v ∧ K w'')
  | _ => False
def wpQ (P : Program) (ops : Array Oper) (K : World → Prop) (Qn : Act → Prop) : List Nat → Act → Prop
  | [], a => Qn a
  | i :: rest, a => match ops[i]? with
    | none => wpQ P ops K Qn rest a
    | some o => (∀ c, o.op ≠ .defer c) ∧ (∀ cs b, o.op ≠ .select cs b) ∧
        if Region.wanted o (yielded ops a.tmps) = true then ∃ v, (∀ w, K w → Zdz P K w v ((execOp a.eval o).run P w)) ∧ wpQ P ops K Qn rest (a.put o.dst v)
        else wpQ P ops K Qn rest (a.put o.dst undef)
def TQ (C : Cx) (ops : Array Oper) (Qn : Act → Prop) (l : List Nat) (E : Env) (H : Heap) : Prop := ∀ a, Fits C.n C.D E a → wpQ C.P ops (fun w => Inv C.w0 C.M w H) Qn l a
def seqB (ops : Array Oper) (m : Nat) : Bool := (List.range m).all fun i => match ops[i]? with
  | none => false
  | some o => (match o.dst with | some d => (List.range m).all fun j => Nat.beq j i || !(Z47 ops j == some d) | none => false) &&
      (o.looksAt ops).all fun t => (List.range m).all fun j => !(Z47 ops j == some t) || (Nat.blt j i && Zd2 ops ops.size i j)
section
variable {C : Cx} {ops : Array Oper} {Q : Exit → Act → World → Prop} {E : Env} {H : Heap}
def Zfr (ops : Array Oper) (vs : Nat → Value) (a : Act) : Nat → Act
  | 0 => a
  | i + 1 => (Zfr ops vs a i).put (Z47 ops i) (vs i)
structure DoneQ (ops : Array Oper) (m : Nat) (vs : Nat → Value) (a0 : Act) (done : Nat → Bool) (a : Act) : Prop where
  size : a.tmps.size = a0.tmps.size
  defers : a.defers = a0.defers
  has : ∀ j d, j < m → done j = true → Z47 ops j = some d → d < a0.tmps.size → a.tmps[d]? = some (vs j)
  old : ∀ t, (∀ j, j < m → done j = true → Z47 ops j ≠ some t) → a.tmps[t]? = a0.tmps[t]?
theorem DoneQ.put {m : Nat} {vs : Nat → Value} {a0 a : Act} {done : Nat → Bool} {i d : Nat} (h : DoneQ ops m vs a0 done a) (hi : i < m) (hd : Z47 ops i = some d) (hu : ∀ j, j < m → j ≠ i → Z47 ops j ≠ some d) :
    DoneQ ops m vs a0 (fun q => if q = i then true else done q) (a.put (some d) (vs i)) := by
  refine ⟨by simpa [Act.put] using h.size, h.defers, fun j e hj hdj hs hlt => ?_, fun t ht => ?_⟩
  · simp only [Act.put, Array.getElem?_setIfInBounds]
    by_cases c : j = i
    · subst c
      rw [hd] at hs; injection hs with hs; subst hs
      rw [if_pos rfl, if_pos (by rw [h.size]; exact hlt)]
    · have hne : d ≠ e := by rintro rfl; exact hu j hj c hs
      rw [if_neg hne]
      exact h.has j e hj (by simpa [c] using hdj) hs hlt
  · simp only [Act.put, Array.getElem?_setIfInBounds]
    have hne : d ≠ t := by rintro rfl; exact ht i hi (by simp) hd
    rw [if_neg hne]
    exact h.old t fun j hj hdj => ht j hj (by by_cases c : j = i <;> simp [c, hdj])
theorem eval_tmp {a a' : Act} {t : Nat} (h : a.tmps[t]? = a'.tmps[t]?) : a.eval (.tmp t) = a'.eval (.tmp t) := by
 simp [Act.eval, Array.getD_eq_getD_getElem?, h]
theorem seq_step {m : Nat} {vs : Nat → Value} {a0 a a' : Act} {done done' : Nat → Bool} {o : Oper} (h : DoneQ ops m vs a0 done a) (h' : DoneQ ops m vs a0 done' a')
    (hl : ∀ t, t ∈ o.looksAt ops → ∀ j, j < m → Z47 ops j = some t → done j = true ∧ done' j = true) :
    (∀ x, x ∈ o.op.operands → a.eval x = a'.eval x) ∧ Region.wanted o (yielded ops a.tmps) = Region.wanted o (yielded ops a'.tmps) := by
  have key : ∀ t : Nat, t ∈ o.looksAt ops → a.tmps[t]? = a'.tmps[t]? := by
    intro t ht
    by_cases c : ∃ j, j < m ∧ Z47 ops j = some t
    · obtain ⟨j, hj, hs⟩ := c
      obtain ⟨d1, d2⟩ := hl t ht j hj hs
      by_cases hlt : t < a0.tmps.size
      · rw [h.has j t hj d1 hs hlt, h'.has j t hj d2 hs hlt]
      · rw [Array.getElem?_eq_none (by rw [h.size]; omega), Array.getElem?_eq_none (by rw [h'.size]; omega)]
    · have hn : ∀ j, j < m → Z47 ops j ≠ some t := fun j hj hs => c ⟨j, hj, hs⟩
      rw [h.old t fun j hj _ => hn j hj, h'.old t fun j hj _ => hn j hj]
  refine ⟨fun x hx => ?_, ?_⟩
  · cases x with
    | tmp t => exact eval_tmp (key t (List.mem_append_left _ (List.mem_filterMap.2 ⟨.tmp t, by simpa using hx, rfl⟩)))
    | const v => rfl
    | global g => rfl
    | func f => rfl
  · unfold Region.wanted
    cases hg : o.guard with
    | none => rfl
    | some gw =>
      obtain ⟨g, want⟩ := gw
      have : yielded ops a.tmps g = yielded ops a'.tmps g := by
        unfold yielded
        cases ht : (ops[g]?).bind (·.dst) with
        | none => rfl
        | some t =>
          have := key t (List.mem_append_right _ (by rw [hg]; simp [ht]))
          simp only [Option.bind_some, this]
      simp only [this]
theorem Zo7 {K : World → Prop} {Qn : Act → Prop} {vs0 : Nat → Value} {a0 : Act} : ∀ (k i : Nat), (∀ j, j < i + k → ∃ o, ops[j]? = some o) → wpQ C.P ops K Qn (List.range' i k) (Zfr ops vs0 a0 i) →
    ∃ vs : Nat → Value, (∀ j, j < i → vs j = vs0 j) ∧ (∀ j o, i ≤ j → j < i + k → ops[j]? = some o → (∀ c, o.op ≠ .defer c) ∧ (∀ cs b, o.op ≠ .select cs b) ∧
      ((Region.wanted o (yielded ops (Zfr ops vs a0 j).tmps) = true ∧ ∀ w, K w → Zdz C.P K w (vs j) ((execOp (Zfr ops vs a0 j).eval o).run C.P w)) ∨ (Region.wanted o (yielded ops (Zfr ops vs a0 j).tmps) = false ∧ vs j = undef))) ∧ Qn (Zfr ops vs a0 (i + k))
  | 0, i, _, h => ⟨vs0, fun _ _ => rfl, fun j o h1 h2 => by omega, h⟩
  | k + 1, i, hops, h => by
    obtain ⟨o, ho⟩ := hops i (by omega)
    rw [List.range'_succ] at h
    simp only [wpQ, ho] at h
    obtain ⟨hd, hs, h⟩ := h
    have hslot : Z47 ops i = o.dst := by simp [Z47, ho]
    obtain ⟨v, hv, hrest⟩ : ∃ v, ((Region.wanted o (yielded ops (Zfr ops vs0 a0 i).tmps) = true ∧ ∀ w, K w → Zdz C.P K w v ((execOp (Zfr ops vs0 a0 i).eval o).run C.P w)) ∨ (Region.wanted o (yielded ops (Zfr ops vs0 a0 i).tmps) = false ∧ v = undef)) ∧
        wpQ C.P ops K Qn (List.range' (i + 1) k) ((Zfr ops vs0 a0 i).put o.dst v) := by
      by_cases hw : Region.wanted o (yielded ops (Zfr ops vs0 a0 i).tmps) = true
      · rw [if_pos hw] at h
        obtain ⟨v, h1, h2⟩ := h
        exact ⟨v, .inl ⟨hw, h1⟩, h2⟩
      · rw [if_neg hw] at h
        exact ⟨undef, .inr ⟨by simpa using hw, rfl⟩, h⟩
    have hcongr : ∀ (vs' : Nat → Value), (∀ j, j < i → vs' j = vs0 j) → ∀ j, j ≤ i → Zfr ops vs' a0 j = Zfr ops vs0 a0 j := by
      intro vs' hvs j
      induction j with
      | zero => intro _; rfl
      | succ j ih => intro hj; simp only [Zfr]; rw [ih (by omega), hvs j (by omega)]
    let vs1 : Nat → Value := fun j => if j = i then v else vs0 j
    have e1 : Zfr ops vs1 a0 (i + 1) = (Zfr ops vs0 a0 i).put o.dst v := by
      simp only [Zfr]
      rw [hcongr vs1 (fun j hj => by simp only [vs1]; rw [if_neg (by omega)]) i (Nat.le_refl _), hslot]
      simp only [vs1, if_true]
    rw [← e1] at hrest
    obtain ⟨vs, g1, g2, g3⟩ := Zo7 k (i + 1) (fun j hj => hops j (by omega)) hrest
    have gi : vs i = v := by rw [g1 i (by omega)]; simp only [vs1, if_true]
    have gl : ∀ j, j < i → vs j = vs0 j := fun j hj => by rw [g1 j (by omega)]; simp only [vs1]; rw [if_neg (by omega)]
    refine ⟨vs, gl, fun j o' h1 h2 ho' => ?_, by rw [show i + (k + 1) = i + 1 + k by omega]; exact g3⟩
    by_cases c : j = i
    · subst c
      rw [ho] at ho'; injection ho' with ho'; subst ho'
      rw [hcongr vs gl j (Nat.le_refl _), gi]
      exact ⟨hd, hs, hv⟩
    · exact g2 j o' (by omega) (by omega) ho'
theorem Zfn {m : Nat} {vs : Nat → Value} {a0 : Act} (hu : ∀ i, i < m → ∃ d, Z47 ops i = some d ∧ ∀ j, j < m → j ≠ i → Z47 ops j ≠ some d) : ∀ i, i ≤ m → DoneQ ops m vs a0 (fun q => decide (q < i)) (Zfr ops vs a0 i)
 | 0, _ => ⟨rfl, rfl, fun j d _ h => by simp at h, fun t _ => rfl⟩
 | i + 1, hi => by
  obtain ⟨d, hd, hud⟩ := hu i (by omega)
  have := (Zfn (vs := vs) (a0 := a0) hu i (by omega)).put (by omega) hd hud
  simp only [Zfr]
  rw [hd]
  have e : (fun q : Nat => decide (q < i + 1)) = fun q => if q = i then true else decide (q < i) := by
   funext q
   by_cases c : q = i
   · simp [c]
   ·
    have : (q < i + 1) ↔ q < i := by omega
    simp [c, this]
  rw [e]; exact this
theorem Z3q {id : Nat} (m : Nat) (ll : List Nat) (hll : List.range m = ll) (hm : C.P.follows .mixedOrders = true) (hb : Zkt ops = true) (ht : Zod ops m = true) (hms : Nat.ble m ops.size = true) (hs : seqB ops m = true)
    (k : TQ C ops (fun a => ∀ w, Inv C.w0 C.M w H → wpOpsIn (FW C.ρ) 0 C.P ops Q (List.range' m (ops.size - m)) a w) ll E H) : T C (.region id ops true) Q E H := by
  subst hll
  intro a0 w hf hi
  have hms' := Nat.le_of_ble_eq_true hms
  have hseq : ∀ i, i < m → ∃ o d, ops[i]? = some o ∧ Z47 ops i = some d ∧ (∀ j, j < m → j ≠ i → Z47 ops j ≠ some d) ∧ ∀ t, t ∈ o.looksAt ops → ∀ j, j < m → Z47 ops j = some t → j < i ∧ Zd2 ops ops.size i j = true := by
    intro i him
    have h1 := List.all_eq_true.1 hs i (List.mem_range.2 him)
    have ho : ops[i]? = some ops[i] := Array.getElem?_eq_getElem (by omega)
    rw [ho] at h1
    simp only [Bool.and_eq_true] at h1
    cases hd : (ops[i]).dst with
    | none => rw [hd] at h1; simp at h1
    | some d =>
      rw [hd] at h1
      refine ⟨ops[i], d, ho, by simp [Z47, ho, hd], fun j hj hji he => ?_, fun t htl j hj hsj => ?_⟩
      · have h2 := List.all_eq_true.1 h1.1 j (List.mem_range.2 hj)
        simp only [Bool.or_eq_true] at h2
        rcases h2 with h2 | h2
        · exact hji (Nat.eq_of_beq_eq_true h2)
        · rw [he] at h2; simp at h2
      · have h2 := List.all_eq_true.1 (List.all_eq_true.1 h1.2 t htl) j (List.mem_range.2 hj)
        rw [hsj] at h2
        simpa using h2
  have hu : ∀ i, i < m → ∃ d, Z47 ops i = some d ∧ ∀ j, j < m → j ≠ i → Z47 ops j ≠ some d := fun i h => by
    obtain ⟨_, d, _, h1, h2, _⟩ := hseq i h; exact ⟨d, h1, h2⟩
  have hk := k a0 hf
  rw [List.range_eq_range'] at hk
  obtain ⟨vs, -, hstep, hend⟩ := Zo7 (C := C) (vs0 := fun _ => undef) (a0 := a0) m 0 (fun j hj => by obtain ⟨o, _, ho, _⟩ := hseq j (by omega); exact ⟨o, ho⟩) hk
  rw [Nat.zero_add] at hend
  refine Zbg (m := m) (Jp := fun done a w => DoneQ ops m vs a0 done a ∧ Inv C.w0 C.M w H) hm hb ht hms' ?_ ?_ ⟨⟨rfl, rfl, fun j d _ h => by simp at h, fun t _ => rfl⟩, hi.ofHeap rfl rfl rfl rfl⟩
  · rintro done i o a w1 him ho hdi hcl hafter _ ⟨hD, hinv⟩
    obtain ⟨o', d, ho', hsl, hud, hlook⟩ := hseq i him
    rw [ho] at ho'; injection ho' with ho'; subst ho'
    have hdst : o.dst = some d := by simpa [Z47, ho] using hsl
    have hdone : ∀ j, Zd2 ops ops.size i j = true → done j = true := fun j hj => Z7u hcl _ i j hj (fun o' ho' => by rw [ho] at ho'; injection ho' with ho'; subst ho'; exact hafter)
    obtain ⟨hev, hwt⟩ := seq_step hD (Zfn hu i (by omega)) (o := o) (fun t htl j hj hsj => by
      obtain ⟨h1, h2⟩ := hlook t htl j hj hsj
      exact ⟨hdone j h2, by simpa using h1⟩)
    obtain ⟨hnd, hns, hval⟩ := hstep i o (by omega) (by omega) ho
    have hex := execOp_congr o hns hev
    have hput := hD.put him hsl hud
    unfold wpOpIn
    rw [ho]
    simp only
    rcases hval with ⟨hw, hq⟩ | ⟨hw, hq⟩
    · rw [hwt, hw]
      simp only [if_true]
      refine ⟨fun _ _ => trivial, ?_⟩
      rw [Oper.semAt_eq _ _ _ hnd, hex]
      have hq := hq w1 hinv
      generalize (execOp (Zfr ops vs a0 i).eval o).run C.P w1 = r at hq
      cases r with
      | ok x w' =>
        cases x <;> simp only [Zdz] at hq
        case value u =>
          obtain ⟨rfl, rfl⟩ := hq
          show _ ∧ _
          rw [hdst]
          exact ⟨hput, hinv⟩
        case enter f args =>
          obtain ⟨rfl, hc⟩ := hq
          refine ⟨by simp [FW], callsIn_FW.2 (Calls.mono hc ?_)⟩
          rintro e w'' ⟨rfl, hK⟩
          show _ ∧ _
          rw [hdst]
          exact ⟨hput, hK⟩
      | halt x w' => simp only [Zdz] at hq
    · rw [hwt, hw]
      simp only [Bool.false_eq_true, if_false]
      refine ⟨fun _ _ => trivial, ?_⟩
      rw [hdst, ← hq]
      exact ⟨hput, hinv⟩
  · rintro done a w1 hall ⟨hD, hinv⟩
    have hA := Zfn (vs := vs) (a0 := a0) hu m (Nat.le_refl _)
    have ea : a = Zfr ops vs a0 m := by
      have e1 : a.tmps = (Zfr ops vs a0 m).tmps := by
        apply Array.ext_getElem?
        intro t
        by_cases c : ∃ j, j < m ∧ Z47 ops j = some t
        · obtain ⟨j, hj, hsj⟩ := c
          by_cases hlt : t < a0.tmps.size
          · rw [hD.has j t hj (hall j hj) hsj hlt, hA.has j t hj (by simpa using hj) hsj hlt]
          · rw [Array.getElem?_eq_none (by rw [hD.size]; omega), Array.getElem?_eq_none (by rw [hA.size]; omega)]
        · have hn : ∀ j, j < m → Z47 ops j ≠ some t := fun j hj hsj => c ⟨j, hj, hsj⟩
          rw [hD.old t fun j hj _ => hn j hj, hA.old t fun j hj _ => hn j hj]
      have e2 : a.defers = (Zfr ops vs a0 m).defers := by rw [hD.defers, hA.defers]
      cases a; simp_all
    rw [ea]
    exact hend w1 hinv
theorem TQ.tail {m k : Nat} (l : List Nat) (hl : List.range' m k = l) {H0 : Heap} (hH : H0 = H) (h : TO C ops Q l E H) : TQ C ops (fun a => ∀ w, Inv C.w0 C.M w H → wpOpsIn (FW C.ρ) 0 C.P ops Q (List.range' m k) a w) [] E H0 := fun a hf w hi => by rw [hl]; exact h a w hf hi
end
end Go.Acq
namespace Go.Acq
open Go Go.RowKit
section rules
variable {C : Cx} {ops : Array Oper} {Q : Act → Prop} {l : List Nat} {E : Env} {H R : Heap} {i d : Nat} {ty : TypeId} {pos : String} {af : Array Edge} {g : Option (Nat × Bool)}
theorem TQ.val {op : Op} {v : Value} (ho : ops[i]? = some ⟨some d, op, ty, pos, af, g⟩) (hg : gdB ops E g = true) (hd : Nat.ble (d + 1) C.n = true) (hnd : ∀ c, op ≠ .defer c)
    (hr : ∀ a w, Fits C.n C.D E a → Inv C.w0 C.M w H → (execOp a.eval ⟨some d, op, ty, pos, af, g⟩).run C.P w = .ok (.value v) w)
    (k : TQ C ops Q l ((d, v) :: E) H) (hns : ∀ cs b, op ≠ .select cs b := by simp) : TQ C ops Q (i :: l) E H := by
  intro a hf
  simp only [wpQ, ho]
  refine ⟨hnd, hns, ?_⟩
  rw [if_pos (Zgo hf hg)]
  exact ⟨v, fun w hi => by rw [hr a w hf hi]; exact ⟨rfl, rfl⟩, k _ (hf.put hd v)⟩
theorem Z11 {o : Oper} (ho : ops[i]? = some o) (hg : gdN ops E o.guard = true) (hdst : o.dst = some d) (hd : Nat.ble (d + 1) C.n = true) (k : TQ C ops Q l ((d, undef) :: E) H) (hnd : ∀ c, o.op ≠ .defer c := by simp) (hns : ∀ cs b, o.op ≠ .select cs b := by simp) : TQ C ops Q (i :: l) E H := by
 intro a hf
 simp only [wpQ, ho]
 refine ⟨hnd, hns, ?_⟩
 rw [if_neg (by rw [Zgn hf hg]; simp), hdst]
 exact k _ (hf.put hd _)
theorem Z4x {t : Nat} {b b' : Bool} (ht : Z5z E t = some (.bool b)) (hb : b = b') (k : TQ C ops Q l ((t, .bool b') :: E) H) : TQ C ops Q l E H := by
 subst hb
 intro a hf
 refine k a ⟨hf.size, hf.defers, fun u v hu => ?_⟩
 rw [Z2y] at hu
 by_cases e : t = u
 · subst e; rw [if_pos rfl] at hu; injection hu with hu; subst hu; exact hf.get t _ ht
 · rw [if_neg e] at hu; exact hf.get u v hu
theorem TQ.move {x : Operand} {v : Value} (ho : ops[i]? = some ⟨some d, .move x, ty, pos, af, g⟩) (hg : gdB ops E g = true) (hd : Nat.ble (d + 1) C.n = true) (hx : ev E x = some v)
    (k : TQ C ops Q l ((d, v) :: E) H) : TQ C ops Q (i :: l) E H :=
  TQ.val ho hg hd (by simp) (fun a w hf _ => by simp [execOp, hf.ev hx]) k
theorem Zid {c x y : Operand} {v : Value} (ho : ops[i]? = some ⟨some d, .pick c x y, ty, pos, af, g⟩) (hg : gdB ops E g = true) (hd : Nat.ble (d + 1) C.n = true) (hc : ev E c = some (.bool true))
    (hx : ev E x = some v) (k : TQ C ops Q l ((d, v) :: E) H) : TQ C ops Q (i :: l) E H :=
  TQ.val ho hg hd (by simp) (fun a w hf _ => by simp [execOp, hf.ev hc, hf.ev hx, asBool]) k
theorem Zdw {c x y : Operand} {v : Value} (ho : ops[i]? = some ⟨some d, .pick c x y, ty, pos, af, g⟩) (hg : gdB ops E g = true) (hd : Nat.ble (d + 1) C.n = true) (hc : ev E c = some (.bool false))
    (hx : ev E y = some v) (k : TQ C ops Q l ((d, v) :: E) H) : TQ C ops Q (i :: l) E H :=
  TQ.val ho hg hd (by simp) (fun a w hf _ => by simp [execOp, hf.ev hc, hf.ev hx, asBool]) k
theorem Z9x {op : BinOp} {t t2 : TypeId} {x y : Operand} {k : IntKind} {p q : Int} {v : Value}
    (ho : ops[i]? = some ⟨some d, .binOp op t x y t2, ty, pos, af, g⟩) (hg : gdB ops E g = true) (hd : Nat.ble (d + 1) C.n = true) (hx : ev E x = some (.int k p)) (hy : ev E y = some (.int k q))
    (hv : binV op k p q = some v) (kk : TQ C ops Q l ((d, v) :: E) H) : TQ C ops Q (i :: l) E H :=
  TQ.val ho hg hd (by simp) (fun a w hf _ => by simp [execOp, hf.ev hx, hf.ev hy, eqGuard_at_int, Zl8 hv]) kk
theorem TQ.add {t t2 : TypeId} {x y : Operand} {p q : Int}
    (ho : ops[i]? = some ⟨some d, .binOp .add t x y t2, ty, pos, af, g⟩) (hg : gdB ops E g = true) (hd : Nat.ble (d + 1) C.n = true) (hx : ev E x = some (.int .i64 p)) (hy : ev E y = some (.int .i64 q))
    (h1 : -9223372036854775808 ≤ p + q) (h2 : p + q ≤ 9223372036854775807) (kk : TQ C ops Q l ((d, .int .i64 (p + q)) :: E) H) : TQ C ops Q (i :: l) E H :=
  Z9x ho hg hd hx hy (by simp only [binV]; rw [Z99 h1 h2]) kk
theorem Zf5 {t t2 e : TypeId} {x y : Operand} {base : Option Addr} {n c m c2 : Nat} (ho : ops[i]? = some ⟨some d, .binOp .eql t x y t2, ty, pos, af, g⟩) (hg : gdB ops E g = true) (hd : Nat.ble (d + 1) C.n = true)
    (hx : ev E x = some (.slice base n c)) (hy : ev E y = some (.slice none m c2)) (ht : Z1s C.P t = some e) (kk : TQ C ops Q l ((d, .bool base.isNone) :: E) H) : TQ C ops Q (i :: l) E H :=
  TQ.val ho hg hd (by simp) (fun a w hf _ => by
    have := Zdp (Zfd fun q => Zbf (P := C.P) w q base n c m c2 (Z43 ht)) rfl
    simp only [execOp, hf.ev hx, hf.ev hy, eqGuard_at_slice]
    simp [this]) kk
theorem TQ.fieldAddr {s : TypeId} {x : Operand} {f o b p : Nat} (ho : ops[i]? = some ⟨some d, .fieldAddr s x f, ty, pos, af, g⟩) (hg : gdB ops E g = true) (hd : Nat.ble (d + 1) C.n = true)
    (hx : ev E x = some (.pointer (some ⟨b, p, none⟩))) (hT : Z1h C.P s f = some o) (kk : TQ C ops Q l ((d, .pointer (some ⟨b, p + o, none⟩)) :: E) H) : TQ C ops Q (i :: l) E H :=
  TQ.val ho hg hd (by simp) (fun a w hf _ => by simp [execOp, hf.ev hx, Zfc hT]) kk
theorem Z0i {s : TypeId} {x : Operand} {f o b : Nat} (ho : ops[i]? = some ⟨some d, .fieldAddr s x f, ty, pos, af, g⟩) (hg : gdB ops E g = true) (hd : Nat.ble (d + 1) C.n = true)
    (hx : ev E x = some (.pointer (some ⟨b, 0, none⟩))) (hT : Z1h C.P s f = some o) (kk : TQ C ops Q l ((d, .pointer (some ⟨b, o, none⟩)) :: E) H) : TQ C ops Q (i :: l) E H :=
  TQ.fieldAddr ho hg hd hx hT (by rw [Nat.zero_add]; exact kk)
theorem TQ.load {t : TypeId} {x : Operand} {ad : Addr} {v : Value} (ho : ops[i]? = some ⟨some d, .load t x, ty, pos, af, g⟩) (hg : gdB ops E g = true) (hd : Nat.ble (d + 1) C.n = true)
    (hx : ev E x = some (.pointer (some ad))) (hT : Z31 C.P t = true) (hc : ∀ w, Inv C.w0 C.M w H → w.cell? ad = some v)
    (kk : TQ C ops Q l ((d, v) :: E) H) : TQ C ops Q (i :: l) E H :=
  TQ.val ho hg hd (by simp) (fun a w hf hi => by simp [execOp, hf.ev hx, Instr.loadAt, Instr.sureAddr, Zb9 hT (hc w hi)]) kk
theorem Z2e {t T' : TypeId} {x : Operand} {b o : Nat} {cs : Array Value} {fr : Nat × Nat} {v : Value} (ho : ops[i]? = some ⟨some d, .load t x, ty, pos, af, g⟩) (hg : gdB ops E g = true) (hd : Nat.ble (d + 1) C.n = true)
    (hx : ev E x = some (.pointer (some ⟨b, o, none⟩))) (hT : Z31 C.P t = true) (hm : (some b, Obj.cells cs T' fr) ∈ H) (hv : cs[o]? = some v)
    (kk : TQ C ops Q l ((d, v) :: E) H) : TQ C ops Q (i :: l) E H :=
  TQ.load ho hg hd hx hT (fun w hi => by rw [hi.cell_own hm]; exact hv) kk
theorem TQ.ldI {t T' : TypeId} {x : Operand} {b o : Nat} {k : IntKind} {xs : List Int} {j : List Value} {fr : Nat × Nat} (ho : ops[i]? = some ⟨some d, .load t x, ty, pos, af, g⟩) (hg : gdB ops E g = true) (hd : Nat.ble (d + 1) C.n = true)
    (hx : ev E x = some (.pointer (some ⟨b, o, none⟩))) (hT : Z31 C.P t = true) (hm : (some b, Obj.cells (arr (intC k) xs j).toArray T' fr) ∈ H) (hv : o < xs.length)
    (kk : TQ C ops Q l ((d, .int k (xs.getD o 0)) :: E) H) : TQ C ops Q (i :: l) E H :=
  Z2e ho hg hd hx hT hm (by
    have := Zi4 (f := intC k) (s := 1) (fun _ => rfl) 0 xs j o 0 hv (by omega)
    simpa using this) kk
theorem Zk5 {t e : TypeId} {x y : Operand} {base : Option Addr} {n c s : Nat} {k : IntKind} {p : Int} (ho : ops[i]? = some ⟨some d, .indexAddr t x y, ty, pos, af, g⟩) (hg : gdB ops E g = true) (hd : Nat.ble (d + 1) C.n = true)
    (hx : ev E x = some (.slice base n c)) (hy : ev E y = some (.int k p)) (ht : Z1s C.P t = some e) (hs : Z1u C.P e = some s) (hb : base = none → n = 0) (h0 : 0 ≤ p) (h1 : p < n)
    (kk : TQ C ops Q l ((d, .pointer (some (ea base (p.toNat * s)))) :: E) H) : TQ C ops Q (i :: l) E H :=
  TQ.val ho hg hd (by simp) (fun a w hf hi => by
    cases base with
    | none => exact absurd h1 (by simp [hb rfl]; omega)
    | some b =>
      have hu := Z43 ht
      simp [execOp, hf.ev hx, hf.ev hy, Instr.indexAt, asIntOf, run_underlying hu, h0, h1, Z5h hs, ea]) kk
theorem TQ.index {t e : TypeId} {x y : Operand} {b o n c s : Nat} {k : IntKind} {p : Int} (ho : ops[i]? = some ⟨some d, .indexAddr t x y, ty, pos, af, g⟩) (hg : gdB ops E g = true) (hd : Nat.ble (d + 1) C.n = true)
    (hx : ev E x = some (.slice (some ⟨b, o, none⟩) n c)) (hy : ev E y = some (.int k p)) (ht : Z1s C.P t = some e) (hs : Z1u C.P e = some s) (h0 : 0 ≤ p) (h1 : p < n)
    (kk : TQ C ops Q l ((d, .pointer (some ⟨b, o + p.toNat * s, none⟩)) :: E) H) : TQ C ops Q (i :: l) E H :=
  Zk5 ho hg hd hx hy ht hs (by simp) h0 h1 (by simpa [ea, Addr.add_mid] using kk)
theorem Zk6 {t e : TypeId} {x y : Operand} {b n c s : Nat} {k : IntKind} {p : Int} (ho : ops[i]? = some ⟨some d, .indexAddr t x y, ty, pos, af, g⟩) (hg : gdB ops E g = true) (hd : Nat.ble (d + 1) C.n = true)
    (hx : ev E x = some (.slice (some ⟨b, 0, none⟩) n c)) (hy : ev E y = some (.int k p)) (ht : Z1s C.P t = some e) (hs : Z1u C.P e = some s) (h0 : 0 ≤ p) (h1 : p < n)
    (kk : TQ C ops Q l ((d, .pointer (some ⟨b, p.toNat * s, none⟩)) :: E) H) : TQ C ops Q (i :: l) E H :=
  TQ.index ho hg hd hx hy ht hs h0 h1 (by rw [Nat.zero_add]; exact kk)
theorem Zpv {t e : TypeId} {x y : Operand} {b n c : Nat} {k : IntKind} {p : Int} (ho : ops[i]? = some ⟨some d, .indexAddr t x y, ty, pos, af, g⟩) (hg : gdB ops E g = true) (hd : Nat.ble (d + 1) C.n = true)
    (hx : ev E x = some (.slice (some ⟨b, 0, none⟩) n c)) (hy : ev E y = some (.int k p)) (ht : Z1s C.P t = some e) (hs : Z1u C.P e = some 1) (h0 : 0 ≤ p) (h1 : p < n)
    (kk : TQ C ops Q l ((d, .pointer (some ⟨b, p.toNat, none⟩)) :: E) H) : TQ C ops Q (i :: l) E H :=
  Zk6 ho hg hd hx hy ht hs h0 h1 (by rw [Nat.mul_one]; exact kk)
theorem TQ.len {t : TypeId} {at' : Array TypeId} {x : Operand} {e : TypeId} {base : Option Addr} {n c : Nat}
    (ho : ops[i]? = some ⟨some d, .call ⟨.builtin .len, #[x], at'⟩, ty, pos, af, g⟩) (hg : gdB ops E g = true) (hd : Nat.ble (d + 1) C.n = true) (hat : at'[0]? = some t)
    (hx : ev E x = some (.slice base n c)) (ht : Z1s C.P t = some e) (kk : TQ C ops Q l ((d, .int .i64 n) :: E) H) : TQ C ops Q (i :: l) E H :=
  TQ.val ho hg hd (by simp) (fun a w hf _ => by
    simp [execOp, resolve, invoke, builtin, hf.ev hx, Builtin.len_, hat, run_underlying (Z43 ht), goInt]) kk
theorem Zg3 {α : Type} {t : TypeId} {at' : Array TypeId} {x : Operand} {e : TypeId} {base : Option Addr} {n c : Nat} {xs : List α} (hn : xs.length = n)
    (ho : ops[i]? = some ⟨some d, .call ⟨.builtin .len, #[x], at'⟩, ty, pos, af, g⟩) (hg : gdB ops E g = true) (hd : Nat.ble (d + 1) C.n = true) (hat : at'[0]? = some t)
    (hx : ev E x = some (.slice base n c)) (ht : Z1s C.P t = some e) (kk : TQ C ops Q l ((d, .int .i64 (xs.length : Int)) :: E) H) : TQ C ops Q (i :: l) E H :=
  TQ.len ho hg hd hat hx ht (by rw [← hn]; exact kk)
theorem Z7q {α : Type} {f : α → List Value} {M : List Nat} {w : World} {xs : List α} {t e : TypeId} {x y : Operand} {base : Option Addr} {n c s : Nat} {k : IntKind} {p : Int} (hr : RS w M f s base n c xs) (hp : inb p xs.length)
    (ho : ops[i]? = some ⟨some d, .indexAddr t x y, ty, pos, af, g⟩) (hg : gdB ops E g = true) (hd : Nat.ble (d + 1) C.n = true)
    (hx : ev E x = some (.slice base n c)) (hy : ev E y = some (.int k p)) (ht : Z1s C.P t = some e) (hs : Z1u C.P e = some s)
    (kk : TQ C ops Q l ((d, .pointer (some (ea base (p.toNat * s)))) :: E) H) : TQ C ops Q (i :: l) E H :=
  Zk5 ho hg hd hx hy ht hs hr.ro.nil hp.1 (by have := hp.2; rw [hr.len] at this; exact this) kk
theorem TQ.ix0 {α : Type} {xs : List α} {t e : TypeId} {x y : Operand} {b n c s : Nat} {k : IntKind} {p : Int} (hn : xs.length = n) (hp : inb p xs.length)
    (ho : ops[i]? = some ⟨some d, .indexAddr t x y, ty, pos, af, g⟩) (hg : gdB ops E g = true) (hd : Nat.ble (d + 1) C.n = true)
    (hx : ev E x = some (.slice (some ⟨b, 0, none⟩) n c)) (hy : ev E y = some (.int k p)) (ht : Z1s C.P t = some e) (hs : Z1u C.P e = some s)
    (kk : TQ C ops Q l ((d, .pointer (some ⟨b, p.toNat * s, none⟩)) :: E) H) : TQ C ops Q (i :: l) E H :=
  Zk6 ho hg hd hx hy ht hs hp.1 (by have := hp.2; rw [hn] at this; exact this) kk
theorem TQ.ix1 {α : Type} {xs : List α} {t e : TypeId} {x y : Operand} {b n c : Nat} {k : IntKind} {p : Int} (hn : xs.length = n) (hp : inb p xs.length)
    (ho : ops[i]? = some ⟨some d, .indexAddr t x y, ty, pos, af, g⟩) (hg : gdB ops E g = true) (hd : Nat.ble (d + 1) C.n = true)
    (hx : ev E x = some (.slice (some ⟨b, 0, none⟩) n c)) (hy : ev E y = some (.int k p)) (ht : Z1s C.P t = some e) (hs : Z1u C.P e = some 1)
    (kk : TQ C ops Q l ((d, .pointer (some ⟨b, p.toNat, none⟩)) :: E) H) : TQ C ops Q (i :: l) E H :=
  Zpv ho hg hd hx hy ht hs hp.1 (by have := hp.2; rw [hn] at this; exact this) kk
theorem TQ.faR {s : TypeId} {x : Operand} {f o n : Nat} {base : Option Addr} (ho : ops[i]? = some ⟨some d, .fieldAddr s x f, ty, pos, af, g⟩) (hg : gdB ops E g = true) (hd : Nat.ble (d + 1) C.n = true)
    (hx : ev E x = some (.pointer (some (ea base n)))) (hT : Z1h C.P s f = some o) (kk : TQ C ops Q l ((d, .pointer (some (ea base (n + o)))) :: E) H) : TQ C ops Q (i :: l) E H :=
  TQ.val ho hg hd (by simp) (fun a w hf _ => by simp [execOp, hf.ev hx, Zj1 hT, Zov]) kk
theorem Z7p {t : TypeId} {x : Operand} {base : Option Addr} {n c : Nat} {k : IntKind} {p : Int} {xs : List Int} (hr : RS C.w0 C.M (intC k) 1 base n c xs) (hp : inb p xs.length) (ho : ops[i]? = some ⟨some d, .load t x, ty, pos, af, g⟩) (hg : gdB ops E g = true) (hd : Nat.ble (d + 1) C.n = true)
    (hx : ev E x = some (.pointer (some (ea base (p.toNat * 1))))) (hT : Z31 C.P t = true)
    (kk : TQ C ops Q l ((d, .int k (xs.getD p.toNat 0)) :: E) H) : TQ C ops Q (i :: l) E H :=
  TQ.load ho hg hd hx hT (fun w hi => by
    have := (hr.ro.monoM hr.far hi).at 0 (o := p.toNat) (c := 0) (Zba hp) (by omega)
    simpa using this) kk
theorem Zie {t : TypeId} {x : Operand} {base : Option Addr} {n c : Nat} {p : Int} {xs : List Bool} (hr : RS C.w0 C.M boolC 1 base n c xs) (hp : inb p xs.length) (ho : ops[i]? = some ⟨some d, .load t x, ty, pos, af, g⟩) (hg : gdB ops E g = true) (hd : Nat.ble (d + 1) C.n = true)
    (hx : ev E x = some (.pointer (some (ea base (p.toNat * 1))))) (hT : Z31 C.P t = true)
    (kk : TQ C ops Q l ((d, .bool (xs.getD p.toNat false)) :: E) H) : TQ C ops Q (i :: l) E H :=
  TQ.load ho hg hd hx hT (fun w hi => by
    have := (hr.ro.monoM hr.far hi).at false (o := p.toNat) (c := 0) (Zba hp) (by omega)
    simpa using this) kk
theorem TQ.ldFR {α : Type} {f : α → List Value} {s : Nat} {t : TypeId} {x : Operand} {base : Option Addr} {n c q : Nat} {p : Int} {xs : List α} {v : Value} (dflt : α) (hr : RS C.w0 C.M f s base n c xs) (hp : inb p xs.length) (hv : (f (xs.getD p.toNat dflt))[q]? = some v)
    (ho : ops[i]? = some ⟨some d, .load t x, ty, pos, af, g⟩) (hg : gdB ops E g = true) (hd : Nat.ble (d + 1) C.n = true)
    (hx : ev E x = some (.pointer (some (ea base (p.toNat * s + q))))) (hT : Z31 C.P t = true)
    (kk : TQ C ops Q l ((d, v) :: E) H) : TQ C ops Q (i :: l) E H :=
  TQ.load ho hg hd hx hT (fun w hi => by
    have hqs : q < s := by rw [← hr.ro.wide (xs.getD p.toNat dflt)]; exact (List.getElem?_eq_some_iff.1 hv).1
    have := (hr.ro.monoM hr.far hi).at dflt (o := p.toNat) (c := q) (Zba hp) hqs
    exact this.trans hv) kk
theorem Zkz {t T' : TypeId} {x : Operand} {b : Nat} {k : IntKind} {p : Int} {xs : List Int} {j : List Value} {fr : Nat × Nat} (hp : inb p xs.length) (ho : ops[i]? = some ⟨some d, .load t x, ty, pos, af, g⟩) (hg : gdB ops E g = true) (hd : Nat.ble (d + 1) C.n = true)
    (hx : ev E x = some (.pointer (some ⟨b, p.toNat, none⟩))) (hT : Z31 C.P t = true) (hm : (some b, Obj.cells (arr (intC k) xs j).toArray T' fr) ∈ H)
    (kk : TQ C ops Q l ((d, .int k (xs.getD p.toNat 0)) :: E) H) : TQ C ops Q (i :: l) E H := TQ.ldI ho hg hd hx hT hm (Zba hp) kk
theorem Zpw {t t2 : TypeId} {x y : Operand} {p q : Int} (h : i64ok (p + q)) (ho : ops[i]? = some ⟨some d, .binOp .add t x y t2, ty, pos, af, g⟩) (hg : gdB ops E g = true) (hd : Nat.ble (d + 1) C.n = true) (hx : ev E x = some (.int .i64 p)) (hy : ev E y = some (.int .i64 q))
    (kk : TQ C ops Q l ((d, .int .i64 (p + q)) :: E) H) : TQ C ops Q (i :: l) E H := TQ.add ho hg hd hx hy h.1 h.2 kk
theorem Z42 {t : TypeId} {x : Operand} {b o : Nat} {cs : List Value} {v : Value} (hc : HB C.w0 C.M b cs) (hv : cs[o]? = some v) (ho : ops[i]? = some ⟨some d, .load t x, ty, pos, af, g⟩) (hg : gdB ops E g = true) (hd : Nat.ble (d + 1) C.n = true)
    (hx : ev E x = some (.pointer (some ⟨b, o, none⟩))) (hT : Z31 C.P t = true)
    (kk : TQ C ops Q l ((d, v) :: E) H) : TQ C ops Q (i :: l) E H := TQ.load ho hg hd hx hT (fun w hi => hi.cell_old (hc.has o v hv) hc.far) kk
theorem Zg4 {α : Type} {xs : List α} {t e : TypeId} {x y : Operand} {ob : Option Nat} {n c s : Nat} {k : IntKind} {p : Int} (hz : ob = none → c = 0) (hc : n ≤ c) (hn : xs.length = n) (hp : inb p xs.length)
    (ho : ops[i]? = some ⟨some d, .indexAddr t x y, ty, pos, af, g⟩) (hg : gdB ops E g = true) (hd : Nat.ble (d + 1) C.n = true)
    (hx : ev E x = some (.slice (sb ob) n c)) (hy : ev E y = some (.int k p)) (ht : Z1s C.P t = some e) (hs : Z1u C.P e = some s)
    (kk : TQ C ops Q l ((d, .pointer (some (ea (sb ob) (p.toNat * s)))) :: E) H) : TQ C ops Q (i :: l) E H := by
  obtain ⟨b, rfl⟩ := Zat hz hc hn hp
  exact TQ.ix0 hn hp ho hg hd hx hy ht hs (by rw [← Zd6]; exact kk)
theorem Zda {t T' : TypeId} {x : Operand} {ob : Option Nat} {n c : Nat} {k : IntKind} {p : Int} {xs : List Int} {j : List Value} {fr : Nat × Nat} (hz : ob = none → c = 0) (hc : n ≤ c) (hn : xs.length = n) (hp : inb p xs.length) (ho : ops[i]? = some ⟨some d, .load t x, ty, pos, af, g⟩) (hg : gdB ops E g = true) (hd : Nat.ble (d + 1) C.n = true)
    (hx : ev E x = some (.pointer (some (ea (sb ob) (p.toNat * 1))))) (hT : Z31 C.P t = true) (hm : (ob, Obj.cells (arr (intC k) xs j).toArray T' fr) ∈ H)
    (kk : TQ C ops Q l ((d, .int k (xs.getD p.toNat 0)) :: E) H) : TQ C ops Q (i :: l) E H := by
  obtain ⟨b, rfl⟩ := Zat hz hc hn hp
  exact Zkz hp ho hg hd (by rw [← Zd6, ← Nat.mul_one p.toNat]; exact hx) hT hm kk
end rules
end Go.Acq
namespace Go.Acq
open Go Go.RowKit
theorem Zj7 {α : Type} {xs : List α} {k : Nat} (h : Nat.blt k xs.length = true) : inb (k : Int) xs.length := ⟨Int.natCast_nonneg k, Int.ofNat_lt.2 (Nat.le_of_ble_eq_true h)⟩
section rules
variable {C : Cx} {ops : Array Oper} {Q : Exit → Act → World → Prop} {l : List Nat} {E : Env} {H R : Heap} {i d : Nat} {ty : TypeId} {pos : String} {af : Array Edge} {g : Option (Nat × Bool)}
end rules
end Go.Acq
namespace Go.Acq
open Go Go.RowKit
section
variable {C : Cx} {Q : Exit → Act → World → Prop} {E : Env} {H : Heap} {c x y : Code}
end
end Go.Acq
namespace Go.Acq
open Go
end Go.Acq
namespace Go.Acq
open Go Go.RowKit
theorem mm0 {α : Type} {x : α} {l : List α} : x ∈ x :: l := .head _
theorem mm1 {α : Type} {a0 x : α} {l : List α} : x ∈ a0 :: x :: l := .tail _ mm0
theorem mm2 {α : Type} {a0 a1 x : α} {l : List α} : x ∈ a0 :: a1 :: x :: l := .tail _ mm1
theorem mm3 {α : Type} {a0 a1 a2 x : α} {l : List α} : x ∈ a0 :: a1 :: a2 :: x :: l := .tail _ mm2
theorem mm4 {α : Type} {a0 a1 a2 a3 x : α} {l : List α} : x ∈ a0 :: a1 :: a2 :: a3 :: x :: l := .tail _ mm3
theorem mm5 {α : Type} {a0 a1 a2 a3 a4 x : α} {l : List α} : x ∈ a0 :: a1 :: a2 :: a3 :: a4 :: x :: l := .tail _ mm4
theorem mm6 {α : Type} {a0 a1 a2 a3 a4 a5 x : α} {l : List α} : x ∈ a0 :: a1 :: a2 :: a3 :: a4 :: a5 :: x :: l := .tail _ mm5
theorem mm7 {α : Type} {a0 a1 a2 a3 a4 a5 a6 x : α} {l : List α} : x ∈ a0 :: a1 :: a2 :: a3 :: a4 :: a5 :: a6 :: x :: l := .tail _ mm6
theorem mm8 {α : Type} {a0 a1 a2 a3 a4 a5 a6 a7 x : α} {l : List α} : x ∈ a0 :: a1 :: a2 :: a3 :: a4 :: a5 :: a6 :: a7 :: x :: l := .tail _ mm7
theorem mm9 {α : Type} {a0 a1 a2 a3 a4 a5 a6 a7 a8 x : α} {l : List α} : x ∈ a0 :: a1 :: a2 :: a3 :: a4 :: a5 :: a6 :: a7 :: a8 :: x :: l := .tail _ mm8
theorem mm10 {α : Type} {a0 a1 a2 a3 a4 a5 a6 a7 a8 a9 x : α} {l : List α} : x ∈ a0 :: a1 :: a2 :: a3 :: a4 :: a5 :: a6 :: a7 :: a8 :: a9 :: x :: l := .tail _ mm9
theorem mm11 {α : Type} {a0 a1 a2 a3 a4 a5 a6 a7 a8 a9 a10 x : α} {l : List α} : x ∈ a0 :: a1 :: a2 :: a3 :: a4 :: a5 :: a6 :: a7 :: a8 :: a9 :: a10 :: x :: l := .tail _ mm10
theorem tk0 {x : Option Nat × Obj} {l : Heap} : Take x (x :: l) (l) := Take.head _ _
theorem tk1 {a0 x : Option Nat × Obj} {l : Heap} : Take x (a0 :: x :: l) (a0 :: l) := Take.tail tk0
theorem tk2 {a0 a1 x : Option Nat × Obj} {l : Heap} : Take x (a0 :: a1 :: x :: l) (a0 :: a1 :: l) := Take.tail tk1
theorem tk3 {a0 a1 a2 x : Option Nat × Obj} {l : Heap} : Take x (a0 :: a1 :: a2 :: x :: l) (a0 :: a1 :: a2 :: l) := Take.tail tk2
theorem tk4 {a0 a1 a2 a3 x : Option Nat × Obj} {l : Heap} : Take x (a0 :: a1 :: a2 :: a3 :: x :: l) (a0 :: a1 :: a2 :: a3 :: l) := Take.tail tk3
theorem tk5 {a0 a1 a2 a3 a4 x : Option Nat × Obj} {l : Heap} : Take x (a0 :: a1 :: a2 :: a3 :: a4 :: x :: l) (a0 :: a1 :: a2 :: a3 :: a4 :: l) := Take.tail tk4
theorem tk6 {a0 a1 a2 a3 a4 a5 x : Option Nat × Obj} {l : Heap} : Take x (a0 :: a1 :: a2 :: a3 :: a4 :: a5 :: x :: l) (a0 :: a1 :: a2 :: a3 :: a4 :: a5 :: l) := Take.tail tk5
theorem tk7 {a0 a1 a2 a3 a4 a5 a6 x : Option Nat × Obj} {l : Heap} : Take x (a0 :: a1 :: a2 :: a3 :: a4 :: a5 :: a6 :: x :: l) (a0 :: a1 :: a2 :: a3 :: a4 :: a5 :: a6 :: l) := Take.tail tk6
theorem tk8 {a0 a1 a2 a3 a4 a5 a6 a7 x : Option Nat × Obj} {l : Heap} : Take x (a0 :: a1 :: a2 :: a3 :: a4 :: a5 :: a6 :: a7 :: x :: l) (a0 :: a1 :: a2 :: a3 :: a4 :: a5 :: a6 :: a7 :: l) := Take.tail tk7
theorem tk9 {a0 a1 a2 a3 a4 a5 a6 a7 a8 x : Option Nat × Obj} {l : Heap} : Take x (a0 :: a1 :: a2 :: a3 :: a4 :: a5 :: a6 :: a7 :: a8 :: x :: l) (a0 :: a1 :: a2 :: a3 :: a4 :: a5 :: a6 :: a7 :: a8 :: l) := Take.tail tk8
theorem Gone.refl (R : Heap) : List.Perm R ([] ++ R) := List.Perm.refl R
section rules
variable {C : Cx} {ops : Array Oper} {Q : Exit → Act → World → Prop} {l : List Nat} {E : Env} {H R : Heap} {i d : Nat} {ty : TypeId} {pos : String} {af : Array Edge} {g : Option (Nat × Bool)}
theorem TO.nilCheck {x : Operand} {p : Addr} (ho : ops[i]? = some ⟨some d, .nilCheck x, ty, pos, af, g⟩) (hg : gdB ops E g = true) (hd : Nat.ble (d + 1) C.n = true) (hx : ev E x = some (.pointer (some p)))
    (k : TO C ops Q l ((d, .pointer (some p)) :: E) H) : TO C ops Q (i :: l) E H :=
  TO.val ho hg hd (by simp) (fun a w hf _ => by simp [execOp, hf.ev hx]) k
end rules
section rules
variable {C : Cx} {ops : Array Oper} {Q : Act → Prop} {l : List Nat} {E : Env} {H R : Heap} {i d : Nat} {ty : TypeId} {pos : String} {af : Array Edge} {g : Option (Nat × Bool)}
theorem TQ.nilCheck {x : Operand} {p : Addr} (ho : ops[i]? = some ⟨some d, .nilCheck x, ty, pos, af, g⟩) (hg : gdB ops E g = true) (hd : Nat.ble (d + 1) C.n = true) (hx : ev E x = some (.pointer (some p)))
    (k : TQ C ops Q l ((d, .pointer (some p)) :: E) H) : TQ C ops Q (i :: l) E H :=
  TQ.val ho hg hd (by simp) (fun a w hf _ => by simp [execOp, hf.ev hx]) k
end rules
section draw
variable {C : Cx} {ops : Array Oper} {Q : Exit → Act → World → Prop} {E : Env} {H : Heap}
theorem Zdm {A B Tl : Heap} (X Hx : Heap) : List.Perm (X ++ ((A ++ Tl) ++ (B ++ Hx))) (X ++ (A ++ (B ++ (Tl ++ Hx)))) := by
 refine List.Perm.append_left X ?_
 rw [List.append_assoc]
 refine List.Perm.append_left A ?_
 rw [← List.append_assoc, ← List.append_assoc]
 exact List.Perm.append_right Hx List.perm_append_comm
theorem ObQ.tail {S : List Sp} {W : Env} {Hc : Heap} {i : Nat} (Tl : Heap) (h : ObQ C ops Q S W Hc i) : ObQ C ops Q S W (Hc ++ Tl) i := by
 intro vs es Es Hx hr a w hf hi
 refine Zc9 (l2 := []) (fun e a w hne hq => ?_) (fun a w hq => ?_) [i] a w (h vs es Es (Tl ++ Hx) hr a w hf (hi.perm (Zdm [] Hx)))
 · cases e <;> first | exact absurd rfl hne | exact hq
 ·
  obtain ⟨v, e', h1, h2, h3⟩ := hq
  exact ⟨v, e', h1, h2, h3.perm (Zdm e' Hx).symm⟩
theorem ObE.tail {S : List Sp} {HR : Nat → List Value → Heap → Prop} {hd : List (List Nat)} {W : Env} {Hc : Heap} {i : Nat} (Tl : Heap) (h : ObE C ops Q S HR hd W Hc i) : ObE C ops Q S HR hd W (Hc ++ Tl) i := by
 intro vs es Es Hx hb hr hh a w hf hi
 refine Zc9 (l2 := []) (fun e a w hne hq => ?_) (fun a w hq => ?_) [i] a w (h vs es Es (Tl ++ Hx) hb hr hh a w hf (hi.perm (Zdm hb Hx)))
 · cases e <;> first | exact absurd rfl hne | exact hq
 ·
  obtain ⟨v, hb', h1, h2, h3, h4⟩ := hq
  exact ⟨v, hb', h1, h2, h3, h4.perm (Zdm hb' Hx).symm⟩
theorem ObsG.tail {S : List Sp} {HR : Nat → List Value → Heap → Prop} {hd : List (List Nat)} {W : Env} {Hc : Heap} (Tl : Heap) : ∀ {l : List Nat}, ObsG C ops Q S HR hd W Hc l → ObsG C ops Q S HR hd W (Hc ++ Tl) l
 | [], _ => trivial
 | i :: l, ⟨h1, h2⟩ => by
  refine ⟨?_, ObsG.tail Tl h2⟩
  cases he : Zf3 S i with
  | true => rw [he] at h1; exact ObE.tail Tl h1
  | false => rw [he] at h1; exact ObQ.tail Tl h1
end draw
end Go.Acq
namespace Go.Acq
open Go
structure Chan where
  cap : Nat
  buf : List Int
  deriving DecidableEq
instance : Inhabited Chan := ⟨⟨0, []⟩⟩
def Chan.put (x : Chan) (v : Int) : Chan := ⟨x.cap, x.buf ++ [v]⟩
def Chan.cut (x : Chan) : Chan := ⟨x.cap, x.buf.tail⟩
end Go.Acq
namespace Go.Acq
open Go Go.RowKit Go.Conc
def wpK (P : Program) (c : Code) (Q : Exit → Act → World → Prop) (a : Act) (w : World) : Prop :=
  ∀ (b : Frame) (k : List Item) (cs : List Frame), b.kind ≠ .early → b.roundOf = none →
    ∃ e a' w', Q e a' w' ∧ ArrivesIn (Machine.fenced P (FW none)) P (lone (b.atR a (.code c :: k)) cs w) b k cs e a' w'
def wpOK (P : Program) (ops : Array Oper) (Q : Exit → Act → World → Prop) (l : List Nat) (a : Act) (w : World) : Prop :=
  ∀ (b : Frame) (k : List Item) (cs : List Frame), b.kind ≠ .early → b.roundOf = none →
    ∃ e a' w', Q e a' w' ∧ ArrivesIn (Machine.fenced P (FW none)) P (lone (b.atR a (.inRegion ops l :: k)) cs w) b k cs e a' w'
def TK (C : Cx) (c : Code) (Q : Exit → Act → World → Prop) (E : Env) (H : Heap) : Prop := ∀ a w, Fits C.n C.D E a → Inv C.w0 C.M w H → wpK C.P c Q a w
def TOK (C : Cx) (ops : Array Oper) (Q : Exit → Act → World → Prop) (l : List Nat) (E : Env) (H : Heap) : Prop := ∀ a w, Fits C.n C.D E a → Inv C.w0 C.M w H → wpOK C.P ops Q l a w
theorem Zhx (n : Nat) : (FW none).room n := fun d hd => by cases hd
section
variable {C : Cx} {Q : Exit → Act → World → Prop} {E E' : Env} {H H' R : Heap} {x y c : Code} {ops : Array Oper} {l : List Nat} {i d : Nat} {ty : TypeId} {pos : String} {af : Array Edge} {g : Option (Nat × Bool)}
theorem TK.ofT (hρ : C.ρ = none) (h : T C c Q E H) : TK C c Q E H := fun a w hf hi b k cs _ hro => by
 have := h a w hf hi
 rw [hρ] at this
 exact this b k cs hro trivial (Zhx _)
theorem TK.seq (h : TK C x (Exit.then (wpK C.P y Q) Q) E H) : TK C (.seq x y) Q E H := fun a w hf hi b k cs hk hro => by
 have h0 : (lone (b.atR a (.code (.seq x y) :: k)) cs w).fenced C.P (FW none) := fenced_calm trivial (Zhx (cs.length + 1 + 0)) rfl
 obtain ⟨e, a₁, w₁, hq, harr⟩ := h a w hf hi b (.code y :: k) cs hk hro
 cases e with
 | normal =>
  obtain ⟨e₂, a₂, w₂, hq₂, harr₂⟩ := hq b k cs hk hro
  exact ⟨e₂, a₂, w₂, hq₂, .of_steps (.head h0 stepR_seq harr) harr₂⟩
 | exit id => exact ⟨_, a₁, w₁, hq, .of_steps (.one h0 stepR_seq) (.pass (x := .code y) rfl (fun _ _ => .inl (by simp)) harr)⟩
 | goto l => exact ⟨_, a₁, w₁, hq, .of_steps (.one h0 stepR_seq) (.pass (x := .code y) rfl (fun _ _ => .inl (by simp)) harr)⟩
 | ret => exact ⟨_, a₁, w₁, hq, .of_steps (.one h0 stepR_seq) (.pass (x := .code y) rfl (fun _ _ => .inl (by simp)) harr)⟩
 | panic ch => exact ⟨_, a₁, w₁, hq, .of_steps (.one h0 stepR_seq) (.pass (x := .code y) rfl (fun _ _ => .inl (by simp)) harr)⟩
 | outgrown => exact ⟨_, a₁, w₁, hq, .of_steps (.one h0 stepR_seq) (.pass (x := .code y) rfl (fun _ _ => .inl (by simp)) harr)⟩
theorem TK.block {id : Nat} (h : TK C c (Exit.inBlock id Q) E H) : TK C (.block id c) Q E H := fun a w hf hi b k cs hk hro => by
 have h0 : (lone (b.atR a (.code (.block id c) :: k)) cs w).fenced C.P (FW none) := fenced_calm trivial (Zhx (cs.length + 1 + 0)) rfl
 obtain ⟨e, a₁, w₁, hq, harr⟩ := h a w hf hi b (.inBlock id :: k) cs hk hro
 cases e with
 | normal => exact ⟨.normal, a₁, w₁, hq, .head h0 stepR_block (StepsIn.trans harr (.one (fenced_calm trivial (Zhx (cs.length + 1 + 0)) rfl) stepR_inBlock))⟩
 | exit id' =>
  by_cases hid : id' = id
  ·
   simp only [Exit.inBlock, hid, if_true] at hq
   exact ⟨.normal, a₁, w₁, hq, .head h0 stepR_block (harr.1 k (by simp [exitTo, hid]))⟩
  ·
   simp only [Exit.inBlock, hid, if_false] at hq
   have this : (id == id') = false := by simp; exact fun h => hid h.symm
   have hx : exitTo id' (.inBlock id :: k) = exitTo id' k := by simp [exitTo, this]
   exact ⟨.exit id', a₁, w₁, hq, fun k' hk => .head h0 stepR_block (harr.1 k' (by rw [hx]; exact hk)),
    fun hr' hk => let ⟨k₁, h1, h2⟩ := harr.2 hr' (by rw [hx]; exact hk); ⟨k₁, h1, .head h0 stepR_block h2⟩⟩
 | goto l =>
  have hx : gotoIn l (.inBlock id :: k) = gotoIn l k := by simp [gotoIn]
  exact ⟨_, a₁, w₁, hq, fun k' hk => .head h0 stepR_block (harr.1 k' (by rw [hx]; exact hk)),
   fun hr' hk => let ⟨k₁, h1, h2⟩ := harr.2 hr' (by rw [hx]; exact hk); ⟨k₁, h1, .head h0 stepR_block h2⟩⟩
 | ret => exact ⟨_, a₁, w₁, hq, .of_steps (.one h0 stepR_block) harr⟩
 | panic ch => exact ⟨_, a₁, w₁, hq, .of_steps (.one h0 stepR_block) harr⟩
 | outgrown => exact ⟨_, a₁, w₁, hq, .of_steps (.one h0 stepR_block) harr⟩
theorem Zlu {o : Operand} {t : Bool} (ho : ev E o = some (.bool t)) (h : TK C (if t then x else y) Q E H) : TK C (.cond o x y) Q E H := fun a w hf hi b k cs hk hro =>
 let ⟨e, a', w', q, r⟩ := h a w hf hi b k cs hk hro; ⟨e, a', w', q, .of_steps (.one (fenced_calm trivial (Zhx (cs.length + 1 + 0)) rfl) (stepR_cond (hf.ev ho))) r⟩
theorem TK.condT {o : Operand} {b : Bool} (ho : ev E o = some (.bool b)) (hb : b = true) (ht : TK C x Q E H) : TK C (.cond o x y) Q E H := by subst hb; exact Zlu ho ht
theorem TK.condF {o : Operand} {b : Bool} (ho : ev E o = some (.bool b)) (hb : b = false) (ht : TK C y Q E H) : TK C (.cond o x y) Q E H := by subst hb; exact Zlu ho ht
theorem TK.condPT {o : Operand} {p : Prop} {hp : Decidable p} (ho : ev E o = some (.bool (@decide p hp))) (hb : p) (ht : TK C x Q E H) : TK C (.cond o x y) Q E H := TK.condT ho (decide_eq_true hb) ht
theorem TK.condPF {o : Operand} {p : Prop} {hp : Decidable p} (ho : ev E o = some (.bool (@decide p hp))) (hb : ¬p) (ht : TK C y Q E H) : TK C (.cond o x y) Q E H := TK.condF ho (decide_eq_false hb) ht
theorem TK.skip (hρ : C.ρ = none) (h : X C Q .normal E H) : TK C .skip Q E H := TK.ofT hρ (T.skip h)
theorem TK.ret (hρ : C.ρ = none) (h : X C Q .ret E H) : TK C .ret Q E H := TK.ofT hρ (T.ret h)
theorem TK.weak (h : TK C c Q E' H') (hE : ∀ t v, Z5z E' t = some v → Z5z E t = some v) (hH : Pick H' H) : TK C c Q E H := fun a w hf hi => h a w (hf.weak hE) (hi.pick hH)
theorem TK.trim (h : AllF E' E) (k : TK C c Q E' H) : TK C c Q E H := fun a w hf hi => k a w (hf.weak fun t v hv => h.sub t v hv) hi
theorem TK.region {id : Nat} {ll : List Nat} (hl : List.range ops.size = ll) (h : TOK C ops Q ll E H) : TK C (.region id ops false) Q E H := fun a w hf hi b k cs hk hro => by
 subst hl
 exact let ⟨e, a', w', q, r⟩ := h a w hf hi b k cs hk hro; ⟨e, a', w', q, .of_steps (.one (fenced_calm trivial (Zhx (cs.length + 1 + 0)) rfl) stepR_region) r⟩
theorem wpQ_K {P : Program} {K : World → Prop} (l2 : List Nat) (l : List Nat) : ∀ a : Act, wpQ P ops K (fun a => ∀ w, K w → wpOK P ops Q l2 a w) l a → ∀ w, K w → wpOK P ops Q (l ++ l2) a w := by
 induction l with
 | nil => exact fun a h w hw => h w hw
 | cons i rest ih =>
  intro a h w hw b k cs hk hro
  have hb : (FW none).fn b.fn := trivial
  have hr := Zhx (cs.length + 1 + 0)
  simp only [wpQ] at h
  show ∃ e a' w', Q e a' w' ∧ ArrivesIn (Machine.fenced P (FW none)) P (lone (b.atR a (.inRegion ops (i :: (rest ++ l2)) :: k)) cs w) b k cs e a' w'
  cases ho : ops[i]? with
  | none =>
   simp only [ho] at h
   obtain ⟨e, a', w', hq, harr⟩ := ih a h w hw b k cs hk hro
   have hs := stepR_op_skip (P := P) (b := b) (a := a) (k := k) (cs := cs) (w := w) (ops := ops) (i := i) (rest := rest ++ l2) (by simp [ho])
   simp only [ho, Option.bind_none, Act.put] at hs
   exact ⟨e, a', w', hq, .of_steps (.one (fenced_noOper hb hr ho) hs) harr⟩
  | some o =>
   simp only [ho] at h
   obtain ⟨hnd, hns, h⟩ := h
   have h0 : (lone (b.atR a (.inRegion ops (i :: (rest ++ l2)) :: k)) cs w).fenced P (FW none) := fenced_oper hb hr ho (fun _ _ => trivial)
   by_cases hx : Region.wanted o (yielded ops a.tmps) = true
   ·
    rw [if_pos hx] at h
    obtain ⟨v, h1, h2⟩ := h
    have h1 := h1 w hw
    generalize he : (execOp a.eval o).run P w = z at h1
    unfold Zdz at h1
    split at h1
    ·
     obtain ⟨rfl, rfl⟩ := h1
     obtain ⟨e, a', w', hq, harr⟩ := ih _ h2 _ hw b k cs hk hro
     refine ⟨e, a', w', hq, .of_steps (.one h0 ?_) harr⟩
     rw [Frame.atR_of_none hro, Frame.atR_of_none hro]
     exact step_solo_go rfl (stepG_value ho hx hk he)
    ·
     obtain ⟨rfl, h1⟩ := h1
     rename_i f args w0
     obtain ⟨e, w'', fr, ⟨rfl, hw''⟩, hsteps, hfn, hleave⟩ := ((callsIn_FW (ρ := none) (n := 0)).2 h1).2 (b.atR a (.inRegion ops (i :: (rest ++ l2)) :: k) :: cs) (Zhx _)
     have henter : step P (lone (b.atR a (.inRegion ops (i :: (rest ++ l2)) :: k)) cs w0) = .next (lone (Frame.enter P f args .normal) (b.atR a (.inRegion ops (i :: (rest ++ l2)) :: k) :: cs) w0) :=
      step_lone_go (by rw [stepGR_op ho hx, Oper.semAt_eq _ _ _ hnd]; simp [stepG.apply, he, Frame.atR])
     have hl : (lone fr (b.atR a (.inRegion ops (i :: (rest ++ l2)) :: k) :: cs) w'').fenced P (FW none) := fenced_leaving (n := 0) trivial (Zhx _) hleave
     obtain ⟨e, a', w₃, hq, harr⟩ := ih _ h2 _ hw'' b k cs hk hro
     refine ⟨e, a', w₃, hq, .of_steps (.head h0 henter (StepsIn.trans hsteps (.one hl ?_))) harr⟩
     have hfin : (b.atR a (.inRegion ops (i :: (rest ++ l2)) :: k)).finish v = b.atR (a.put o.dst v) (.inRegion ops (rest ++ l2) :: k) := by rw [Frame.finish_atR, ho]; rfl
     rw [← hfin]; exact step_leave_returned hleave
    · exact h1.elim
   ·
    rw [if_neg hx] at h
    obtain ⟨e, a', w', hq, harr⟩ := ih _ h w hw b k cs hk hro
    have hs := stepR_op_skip (P := P) (b := b) (a := a) (k := k) (cs := cs) (w := w) (ops := ops) (i := i) (rest := rest ++ l2) (by simp [ho]; simpa using hx)
    simp only [ho, Option.bind_some] at hs
    exact ⟨e, a', w', hq, .of_steps (.one h0 hs) harr⟩
theorem TOK.pre (l1 l2 : List Nat) {l : List Nat} (hl : l1 ++ l2 = l) (h : TQ C ops (fun a => ∀ w, Inv C.w0 C.M w H → wpOK C.P ops Q l2 a w) l1 E H) : TOK C ops Q l E H := fun a w hf hi => by
 subst hl
 exact wpQ_K l2 l1 a (h a hf) w hi
theorem Zci {t T' : TypeId} {x : Operand} {b o k : Nat} {cs vs : List Value} {fr : Nat × Nat} (ho : ops[i]? = some ⟨some d, .load t x, ty, pos, af, g⟩) (hg : gdB ops E g = true) (hd : Nat.ble (d + 1) C.n = true)
    (hx : ev E x = some (.pointer (some ⟨b, o, none⟩))) (hT : Zdq C.P t k = true) (hm : (some b, Obj.cells cs.toArray T' fr) ∈ H) (hv : (cs.drop o).take k = vs) (hk : vs.length = k)
    (kk : TO C ops Q l ((d, .agg vs.toArray) :: E) H) : TO C ops Q (i :: l) E H :=
  Zf6 ho hg hd hx hT hk (fun w hi j v hj => by
    rw [Addr.add_mid, hi.cell_own hm]
    subst hv
    rw [List.getElem?_take] at hj
    split at hj
    · rw [List.getElem?_drop] at hj; simpa using hj
    · cases hj) kk
end
end Go.Acq
namespace Go.Acq
open Go Go.RowKit
section rules
variable {C : Cx} {ops : Array Oper} {Q : Exit → Act → World → Prop} {l : List Nat} {E : Env} {H R : Heap} {i d : Nat} {ty : TypeId} {pos : String} {af : Array Edge} {g : Option (Nat × Bool)}
end rules
end Go.Acq
namespace Go.Acq
open Go Go.RowKit
section
variable {α : Type} {w0 w : World} {M M' : List Nat} {f : α → List Value} {s n c : Nat} {base : Option Addr} {xs ys : List α} {ob : Option Nat} {j : List Value} {H Hm R : Heap} {T' : TypeId} {fr : Nat × Nat}
def Seen (w0 : World) (M : List Nat) (f : α → List Value) (s : Nat) (base : Option Addr) (n c : Nat) (xs ys : List α) (ob : Option Nat) : Prop :=
  (base = sb ob ∧ ys = xs ∧ xs.length = n ∧ n ≤ c ∧ (ob = none → c = 0)) ∨ RS w0 M f s base n c xs
theorem Seen.own (hn : xs.length = n) (hc : n ≤ c) (hz : ob = none → c = 0) : Seen w0 M f s (sb ob) n c xs xs ob := .inl ⟨rfl, rfl, hn, hc, hz⟩
theorem Seen.ro (h : RS w0 M f s base n c xs) : Seen w0 M f s base n c xs [] none := .inr h
theorem Seen.len (h : Seen w0 M f s base n c xs ys ob) : xs.length = n := h.elim (fun h => h.2.2.1) (fun h => h.len)
theorem Seen.cap (h : Seen w0 M f s base n c xs ys ob) : n ≤ c := h.elim (fun h => h.2.2.2.1) (fun h => h.cap)
theorem Seen.nil (h : Seen w0 M f s base n c xs ys ob) (hb : base = none) : n = 0 := by
 rcases h with ⟨h1, h2, h3, h4, h5⟩ | h
 ·
  cases ob with
  | none => have := h5 rfl; omega
  | some b => rw [h1] at hb; cases hb
 · exact h.ro.nil hb
theorem Seen.rs (h : Seen w0 M f s base n c xs ys ob) (hf : ∀ x, (f x).length = s) (hi : Inv w0 M w H) (hm : (ob, Obj.cells (arr f ys j).toArray T' fr) ∈ H) : RS w [] f s base n c xs := by
 rcases h with ⟨rfl, rfl, h3, h4, h5⟩ | h
 · exact hi.rs hf hm h3 h4 h5
 · exact h.mono hi
theorem Seen.rsM (h : Seen w0 M f s base n c xs ys ob) (hf : ∀ x, (f x).length = s) (hs : 0 < s) (hi : Inv w0 M w H) (hp : List.Perm H (Hm ++ R)) (hM : Hm.filterMap (·.1) = M') (hm : (ob, Obj.cells (arr f ys j).toArray T' fr) ∈ R) : RS w M' f s base n c xs := by
 rcases h with ⟨rfl, rfl, h3, h4, h5⟩ | h
 · exact hi.rsM hf hp hM hm h3 h4 h5
 · exact h.monoM hs hi hp hM
end
theorem Zoh {ob : Option Nat} (h : ob ≠ none) : (sb ob).isNone = false := by
 cases ob with
 | none => exact absurd rfl h
 | some b => rfl
section rules
variable {C : Cx} {ops : Array Oper} {Q : Exit → Act → World → Prop} {l : List Nat} {E : Env} {H R : Heap} {i d : Nat} {ty : TypeId} {pos : String} {af : Array Edge} {g : Option (Nat × Bool)}
theorem T.label {c : Nat} (h : X C Q .normal E H) : T C (.label c) Q E H := fun a w hf hi => wpIn_label (h a w hf hi)
theorem T.scope {c : Code} (hρ : C.ρ = none) (h : T C c (Exit.noGoto Q) E H) : T C (.scope c) Q E H := fun a w hf hi => by
 have h1 := h a w hf hi
 rw [hρ] at h1 ⊢
 exact wpIn_wide.2 (wp_scope_straight (wpIn_wide.1 h1))
theorem Zku (h : X C Q .ret E H) : X C (Exit.noGoto Q) .ret E H := h
end rules
end Go.Acq
namespace Go.Acq
end Go.Acq
namespace Go.Acq
open Go Go.RowKit
set_option linter.unusedSimpArgs false
section
variable {α : Type} {q : IntKind} {f : α → Value} {k : Int × Int} {z v : α}
end
section
variable {P : Program} {w : World} {kt i : TypeId} {q : IntKind}
end
section rules
variable {C : Cx} {ops : Array Oper} {Q : Exit → Act → World → Prop} {l : List Nat} {E : Env} {H R : Heap} {i d : Nat} {ty : TypeId} {pos : String} {af : Array Edge} {g : Option (Nat × Bool)}
variable {α : Type} {q : IntKind} {f : α → Value}
end rules
end Go.Acq
namespace Go.Acq
open Go
end Go.Acq
namespace Go.Acq
open Go Go.RowKit
section rules
variable {C : Cx} {ops : Array Oper} {Q : Exit → Act → World → Prop} {l : List Nat} {E : Env} {H R : Heap} {i d : Nat} {ty : TypeId} {pos : String} {af : Array Edge} {g : Option (Nat × Bool)}
end rules
end Go.Acq
namespace Go.Acq
open Go Go.RowKit
def Kept (ob obK ob' : Option Nat) : Prop := obK = ob ∨ (obK = none ∧ ob' = ob)
section rules
variable {C : Cx} {ops : Array Oper} {Q : Exit → Act → World → Prop} {l : List Nat} {E : Env} {H R : Heap} {i d : Nat} {ty : TypeId} {pos : String} {af : Array Edge} {g : Option (Nat × Bool)}
theorem Kept.rs {α : Type} {w0 w : World} {M : List Nat} {f : α → List Value} {s n c n2 c2 : Nat} {ob obK ob' : Option Nat} {xs ys : List α} {j j' : List Value} {T T' : TypeId} {fr fr' : Nat × Nat} (h : Kept ob obK ob') (hi : Inv w0 M w H) (hf : ∀ x, (f x).length = s)
    (hm2 : (ob', Obj.cells (arr f (xs ++ ys) j').toArray T' fr') ∈ H) (hmK : (obK, Obj.cells (arr f xs j).toArray T fr) ∈ H) (hn2 : (xs ++ ys).length = n2) (hc2 : n2 ≤ c2) (h02 : ob' = none → c2 = 0) (hn : xs.length = n) (hc : n ≤ c) (h0 : ob = none → c = 0) : RS w [] f s (sb ob) n c xs := by
  rcases h with rfl | ⟨rfl, rfl⟩
  · exact hi.rs hf hmK hn hc h0
  · have h1 := hi.rs hf hm2 hn2 hc2 h02
    have h2 := h1.take (p := (n : Int)) ⟨Int.natCast_nonneg n, by rw [List.length_append]; omega⟩
    rw [Int.toNat_natCast, List.take_left' hn] at h2
    exact ⟨h2.ro, fun _ _ _ => by simp, hc⟩
end rules
end Go.Acq
namespace Go.Proofs.Ytfdhelnfgfaeaaa.Ax
open Go Go.Acq Go.RowKit Go.Proofs
set_option linter.unusedVariables false
set_option linter.unusedSimpArgs false
set_option maxHeartbeats 8000000
set_option maxRecDepth 20000
theorem Z4y : Try.prog.follows .mixedOrders = true := by kernel_rfl
theorem Z96 : Zdq Try.prog 158 2 = true := by kernel_rfl
theorem Znf : Zdq Try.prog 159 12 = true := by kernel_rfl
theorem Z2u : Zdq Try.prog 24 4 = true := by kernel_rfl
theorem Z8i : Zdq Try.prog 35 3 = true := by kernel_rfl
theorem Zg0 : Zdq Try.prog 64 9 = true := by kernel_rfl
theorem TWCS4.b2 : Z7k Try.prog 2 = some 8 := by kernel_rfl
theorem Zdu : Z7k Try.prog 3 = some 8 := by kernel_rfl
theorem Zpq : Z7k Try.prog 35 = some 24 := by kernel_rfl
theorem TWCS4.b4 : Z7k Try.prog 4 = some 1 := by kernel_rfl
theorem Zne : Z0t Try.prog 107 = true := by kernel_rfl
theorem Znd : Z0t Try.prog 125 = true := by kernel_rfl
theorem Znc : Z0t Try.prog 126 = true := by kernel_rfl
theorem Znb : Z0t Try.prog 127 = true := by kernel_rfl
theorem Z78 : Z0t Try.prog 128 = true := by kernel_rfl
theorem Zhc : Z0t Try.prog 129 = true := by kernel_rfl
theorem Zna : Z0t Try.prog 130 = true := by kernel_rfl
theorem Zn9 : Z0t Try.prog 131 = true := by kernel_rfl
theorem Zn8 : Z0t Try.prog 132 = true := by kernel_rfl
theorem Zn7 : Z0t Try.prog 133 = true := by kernel_rfl
theorem Zhb : Z0t Try.prog 138 = true := by kernel_rfl
theorem Zha : Z0t Try.prog 139 = true := by kernel_rfl
theorem Zh9 : Z0t Try.prog 140 = true := by kernel_rfl
theorem Zh8 : Z0t Try.prog 145 = true := by kernel_rfl
theorem Zbr : Z0t Try.prog 29 = true := by kernel_rfl
theorem Zpp : Z0t Try.prog 72 = true := by kernel_rfl
theorem Zpo : Z0t Try.prog 73 = true := by kernel_rfl
theorem Zpn : Z0t Try.prog 74 = true := by kernel_rfl
theorem Zjz : Z0t Try.prog 75 = true := by kernel_rfl
theorem Z77 : Z1h Try.prog 158 0 = some 0 := by kernel_rfl
theorem Z76 : Z1h Try.prog 158 1 = some 1 := by kernel_rfl
theorem Z38 : Z1h Try.prog 24 0 = some 0 := by kernel_rfl
theorem Z5g : Z1h Try.prog 24 1 = some 1 := by kernel_rfl
theorem Z65 : Z1h Try.prog 24 2 = some 2 := by kernel_rfl
theorem Z4w : Z1h Try.prog 24 3 = some 3 := by kernel_rfl
theorem Z64 : Z1h Try.prog 35 0 = some 0 := by kernel_rfl
theorem Z6z : Z1h Try.prog 35 1 = some 1 := by kernel_rfl
theorem Z6y : Z1h Try.prog 35 2 = some 2 := by kernel_rfl
theorem Zfz : Z1h Try.prog 64 3 = some 3 := by kernel_rfl
theorem Zd8 : Z1h Try.prog 64 4 = some 4 := by kernel_rfl
theorem Zd7 : Z1h Try.prog 64 5 = some 5 := by kernel_rfl
theorem Zfy : Z1h Try.prog 64 6 = some 6 := by kernel_rfl
theorem Zfx : Z1h Try.prog 64 7 = some 7 := by kernel_rfl
theorem Zfw : Z1h Try.prog 64 8 = some 8 := by kernel_rfl
theorem Z3w : Z1s Try.prog 22 = some 35 := by kernel_rfl
theorem Zjy : Z1s Try.prog 26 = some 2 := by kernel_rfl
theorem Zjx : Z1s Try.prog 29 = some 4 := by kernel_rfl
theorem Z2b : Z1s Try.prog 40 = some 3 := by kernel_rfl
theorem Z95 : Z1u Try.prog 158 = some 2 := by kernel_rfl
theorem Zn6 : Z1u Try.prog 159 = some 12 := by kernel_rfl
theorem Zia : Z1u Try.prog 2 = some 1 := by kernel_rfl
theorem Zpm : Z1u Try.prog 22 = some 1 := by kernel_rfl
theorem Zjw : Z1u Try.prog 24 = some 4 := by kernel_rfl
theorem Zpl : Z1u Try.prog 26 = some 1 := by kernel_rfl
theorem Zpk : Z1u Try.prog 29 = some 1 := by kernel_rfl
theorem Z25 : Z1u Try.prog 3 = some 1 := by kernel_rfl
theorem Z55 : Z1u Try.prog 35 = some 3 := by kernel_rfl
theorem Zi9 : Z1u Try.prog 4 = some 1 := by kernel_rfl
theorem Zdt : Z1u Try.prog 40 = some 1 := by kernel_rfl
theorem Zfv : Z1u Try.prog 64 = some 9 := by kernel_rfl
theorem Z94 : Try.prog.underlying 159 = some (.array 6 158) := by kernel_rfl
theorem Zh7 : Z31 Try.prog 174 = true := by kernel_rfl
theorem Zb2 : Z31 Try.prog 2 = true := by kernel_rfl
theorem Z7m : Z31 Try.prog 22 = true := by kernel_rfl
theorem Zpj : Z31 Try.prog 26 = true := by kernel_rfl
theorem Zpi : Z31 Try.prog 29 = true := by kernel_rfl
theorem Z17 : Z31 Try.prog 3 = true := by kernel_rfl
theorem Zai : Z31 Try.prog 30 = true := by kernel_rfl
theorem Z7l : Z31 Try.prog 40 = true := by kernel_rfl
theorem Zah : Z31 Try.prog 69 = true := by kernel_rfl
theorem Z93 : Z4k Try.prog 158 = some (.agg #[.nilFunc, .int .i64 0]) := by kernel_rfl
theorem Zn5 : Z4k Try.prog 159 = some (.agg #[.nilFunc, .int .i64 0, .nilFunc, .int .i64 0, .nilFunc, .int .i64 0, .nilFunc, .int .i64 0, .nilFunc, .int .i64 0, .nilFunc, .int .i64 0]) := by kernel_rfl
theorem TWCS4.z2 : Z4k Try.prog 2 = some (.int .i64 0) := by kernel_rfl
theorem Zjv : Z4k Try.prog 24 = some (.agg #[.int .i64 0, .int .i64 0, .int .i64 0, .slice none 0 0]) := by kernel_rfl
theorem Zds : Z4k Try.prog 3 = some (.int .i64 0) := by kernel_rfl
theorem Zag : Z4k Try.prog 35 = some (.agg #[.int .i64 0, .int .i64 0, .int .i64 0]) := by kernel_rfl
theorem TWCS4.z4 : Z4k Try.prog 4 = some (.bool false) := by kernel_rfl
theorem Zph : Z4k Try.prog 40 = some (.slice none 0 0) := by kernel_rfl
theorem Zju : Z4k Try.prog 64 = some (.agg #[.int .i64 0, .int .i64 0, .int .i64 0, .slice none 0 0, .slice none 0 0, .slice none 0 0, .slice none 0 0, .slice none 0 0, .slice none 0 0]) := by kernel_rfl
theorem Zp7 : ElemT Try.prog 22 35 3 24 (.agg #[.int .i64 0, .int .i64 0, .int .i64 0]) := ⟨Z3w, Z55, Zpq, Zag, rfl⟩
theorem Zp6 : ElemT Try.prog 40 3 1 8 (.int .i64 0) := ⟨Z2b, Z25, Zdu, Zds, rfl⟩
theorem Z4o {x0 : Int} {n1 : Int} (w : World) {r0 : Int} (H : Z29 x0 n1 = some r0) : Fnc Try.prog 29 #[.int .i64 x0, .int .i64 n1] w [] (fun v N => v = .int .i64 r0 ∧ N = []) := by
 unfold Z29 at H; refine Fnc.enter (vs := [.int .i64 x0, .int .i64 n1]) Try.func29 rfl rfl (Inv.refl w) ?_; refine Z0b ?_; refine Z03 (ll := [0]) rfl ?_; refine Z06 rfl rfl rfl rfl ?_; refine Z02 ?_; refine Z01 ?_; refine Z0b ?_; refine Z0b ?_; refine Z03 (ll := [0, 1]) rfl ?_; refine Z05 rfl rfl rfl rfl ?_; refine Z0r rfl rfl rfl rfl rfl rfl ?_; refine Z02 ?_; refine Z01 ?_; rcases Z0g H with ⟨g1, H⟩ | ⟨g1, H⟩
 · refine Z14 rfl g1 ?_; refine Z0b ?_; refine Z03 (ll := [0]) rfl ?_; refine Z06 rfl rfl rfl rfl ?_; refine Z02 ?_; refine Z01 ?_; refine T.ret ?_; refine Z0f ?_; obtain rfl := ret1 H; exact Z10 rfl rfl rfl rfl (Res.tmp rfl) Z09 ⟨rfl, rfl⟩
 · refine Z15 rfl g1 ?_; refine T.skip ?_; refine Z01 ?_; refine Z0b ?_; obtain ⟨g2, H⟩ := Z0d H; obtain ⟨g3, H⟩ := Z0d H; obtain ⟨g4, H⟩ := Z0d H; refine Z03 (ll := [0, 1, 2, 3, 4, 5, 6, 7]) rfl ?_; refine Z05 rfl rfl rfl rfl ?_; refine Z05 rfl rfl rfl rfl ?_; refine TO.rem rfl rfl rfl rfl rfl g2 ?_; refine Z05 rfl rfl rfl rfl ?_; refine Z18 g3 rfl rfl rfl rfl rfl ?_; refine Z05 rfl rfl rfl rfl ?_; refine TO.rem rfl rfl rfl rfl rfl g4 ?_; refine Z06 rfl rfl rfl rfl ?_; refine Z02 ?_; refine Z01 ?_; refine Z0k (Z00 (t := 4) rfl Z08) ?_; refine T.ret ?_; obtain rfl := ret1 H; exact Z10 rfl rfl rfl rfl (Res.tmp rfl) Z09 ⟨rfl, rfl⟩
theorem Zdx {n0 : Net} {verts1 : Int} {arcs2 : Int} {n0f3_b : Option Addr} {n0f3_n : Nat} {n0f3_c : Nat} (w : World) (h_n0f3 : RS w [] Z4g 3 n0f3_b n0f3_n n0f3_c n0.Arcs) {r0 : Net} (H : Z54 n0 verts1 arcs2 = some r0) : Fnc Try.prog 15 #[.agg #[.int .i64 n0.N, .int .i64 n0.S, .int .i64 n0.T, .slice n0f3_b n0f3_n n0f3_c], .int .i64 verts1, .int .i64 arcs2] w [] (fun v N => ∃ (d0 : Option Nat) (g1 : Nat) (g2 : Nat) (i7 : List Value), v = .agg #[.int .i64 r0.N, .int .i64 r0.S, .int .i64 r0.T, .slice (sb d0) g1 g2] ∧ N = [(d0, .cells (arr Z4g r0.Arcs i7).toArray 35 (0, 0))] ∧ r0.Arcs.length = g1 ∧ g1 ≤ g2 ∧ i7.length = (g2 - g1) * 3 ∧ (d0 = none → g2 = 0)) := by
 unfold Z54 at H; refine Fnc.enter (vs := [.agg #[.int .i64 n0.N, .int .i64 n0.S, .int .i64 n0.T, .slice n0f3_b n0f3_n n0f3_c], .int .i64 verts1, .int .i64 arcs2]) Try.func15 rfl rfl (Inv.refl w) ?_; refine Z0b ?_; refine Z03 (ll := [0, 1]) rfl ?_; refine Z1p rfl rfl rfl rfl ?_; intro b1; refine Z1i rfl rfl rfl Zjv ?_; intro b3; refine Z02 ?_; refine Z01 ?_; refine Z0b ?_; obtain ⟨g5, H⟩ := Z0d H; obtain ⟨r6, e7, H⟩ := Z0l H; obtain ⟨g8, H⟩ := Z0d H; refine Z03 (ll := [0, 1, 2, 3, 4, 5, 6, 7, 8]) rfl ?_; refine Z07 rfl rfl rfl rfl Z38 ?_; refine Z0e rfl rfl rfl rfl Z17 mm1 rfl ?_; refine Z05 rfl rfl rfl rfl ?_; refine Zc5 g5 rfl rfl rfl rfl rfl ?_; refine Z0n Zbr rfl rfl rfl rfl (fun wc hwc => Z4o (x0 := n0.N) (n1 := (verts1 - 1)) wc  e7) ?_; rintro _ _ ⟨rfl, rfl⟩; refine Z18 g8 rfl rfl rfl rfl rfl ?_; refine Z2l (t := 24) [.int .i64 0, .int .i64 0, .int .i64 0, .slice none 0 0] [0, 1, 2, 3] rfl rfl rfl rfl (by simp only [Z1m, setCells, Value.cells, List.toList_toArray, List.getD_cons_zero, List.getD_cons_succ, List.set_cons_zero, List.set_cons_succ]; rfl) (by kernel_rfl) ?_; refine Z1i rfl rfl rfl Zjv ?_; intro b9; refine Z1b rfl rfl rfl rfl tk0 Zjw rfl rfl rfl ?_; refine Z02 ?_; refine Z01 ?_; refine Z0k (Z00 (t := 2) rfl (Z00 (t := 3) rfl (Z00 (t := 6) rfl (Z00 (t := 7) rfl Z08)))) ?_; refine Z0b ?_; obtain ⟨a7, j5, H⟩ := Z0l H; refine Z03 (ll := [0, 1, 2, 3, 4, 5, 6]) rfl ?_; refine Z07 rfl rfl rfl rfl Z5g ?_; refine Z0e rfl rfl rfl rfl Z17 mm2 rfl ?_; refine Z07 rfl rfl rfl rfl Z38 ?_; refine Z0e rfl rfl rfl rfl Z17 mm0 rfl ?_; refine Z0n Zbr rfl rfl rfl rfl (fun wc hwc => Z4o (x0 := n0.S) (n1 := (2 + r6)) wc  j5) ?_; rintro _ _ ⟨rfl, rfl⟩; refine Z07 rfl rfl rfl rfl Z5g ?_; refine Z2h (cs' := [.int .i64 (2 + r6), .int .i64 a7, .int .i64 0, .slice none 0 0]) rfl rfl rfl rfl tk0 Z25 rfl rfl rfl ?_; refine Z02 ?_; refine Z01 ?_; refine Z0b ?_; obtain ⟨i8, j6, H⟩ := Z0l H; refine Z03 (ll := [0, 1, 2, 3, 4, 5, 6]) rfl ?_; refine Z07 rfl rfl rfl rfl Z65 ?_; refine Z0e rfl rfl rfl rfl Z17 mm2 rfl ?_; refine Z07 rfl rfl rfl rfl Z38 ?_; refine Z0e rfl rfl rfl rfl Z17 mm0 rfl ?_; refine Z0n Zbr rfl rfl rfl rfl (fun wc hwc => Z4o (x0 := n0.T) (n1 := (2 + r6)) wc  j6) ?_; rintro _ _ ⟨rfl, rfl⟩; refine Z07 rfl rfl rfl rfl Z65 ?_; refine Z2h (cs' := [.int .i64 (2 + r6), .int .i64 a7, .int .i64 i8, .slice none 0 0]) rfl rfl rfl rfl tk0 Z25 rfl rfl rfl ?_; refine Z02 ?_; refine Z01 ?_; refine Z0k (Z00 (t := 2) rfl (Z00 (t := 3) rfl (Z00 (t := 6) rfl (Z00 (t := 7) rfl Z08)))) ?_; refine Z0b ?_; refine Z0b ?_; refine Z03 (ll := [0, 1, 2, 3, 4]) rfl ?_; refine Z07 rfl rfl rfl rfl Z5g ?_; refine Z0e rfl rfl rfl rfl Z17 mm0 rfl ?_; refine Z07 rfl rfl rfl rfl Z65 ?_; refine Z0e rfl rfl rfl rfl Z17 mm0 rfl ?_; refine Z0r rfl rfl rfl rfl rfl rfl ?_; refine Z02 ?_; refine Z01 ?_; refine Z1l (fun (a9 : Int) => Z3f n0 arcs2 r6 a7 a9 = some r0) (fun (a9 : Int) => [(2, .int .i64 arcs2), (3, .pointer (some ⟨b1, 0, none⟩)), (6, .pointer (some ⟨b3, 0, none⟩)), (7, .pointer (some ⟨b9, 0, none⟩))]) (fun (a9 : Int) => [(some b1, .cells #[.int .i64 n0.N, .int .i64 n0.S, .int .i64 n0.T, .slice n0f3_b n0f3_n n0f3_c] 24 (0, 0)), (some b3, .cells #[.int .i64 0, .int .i64 0, .int .i64 0, .slice none 0 0] 24 (0, 0)), (some b9, .cells #[.int .i64 (2 + r6), .int .i64 a7, .int .i64 a9, .slice none 0 0] 24 (0, 0))]) ?_ ?_
 ·
  rcases Z0g H with ⟨g6, H⟩ | ⟨g6, H⟩
  · refine Z14 rfl g6 ?_; obtain ⟨j7, H⟩ := Z0d H; obtain ⟨j8, H⟩ := Z0d H; refine Z03 (ll := [0, 1, 2, 3, 4, 5, 6, 7]) rfl ?_; refine Z07 rfl rfl rfl rfl Z5g ?_; refine Z0e rfl rfl rfl rfl Z17 mm0 rfl ?_; refine Z18 j7 rfl rfl rfl rfl rfl ?_; refine Z07 rfl rfl rfl rfl Z38 ?_; refine Z0e rfl rfl rfl rfl Z17 mm0 rfl ?_; refine TO.rem rfl rfl rfl rfl rfl j8 ?_; refine Z07 rfl rfl rfl rfl Z65 ?_; refine Z2h (cs' := [.int .i64 (2 + r6), .int .i64 a7, .int .i64 ((a7 + 1).tmod (2 + r6)), .slice none 0 0]) rfl rfl rfl rfl tk0 Z25 rfl rfl rfl ?_; refine Z02 ?_; exact Z24 ((a7 + 1).tmod (2 + r6)) H (Z00 rfl (Z00 rfl (Z00 rfl (Z00 rfl Z08)))) (Z04 tk2 (Z04 tk1 (Z04 tk0 Z09)))
  · refine Z15 rfl g6 ?_; refine T.skip ?_; exact Z24 i8 H (Z00 rfl (Z00 rfl (Z00 rfl (Z00 rfl Z08)))) (Z04 tk2 (Z04 tk1 (Z04 tk0 Z09)))
 ·
  rintro a9 H; unfold Z3f at H; refine Z0b ?_; refine Z0b ?_; obtain ⟨g3, H⟩ := Z0d H; refine Z03 (ll := [0, 1, 2, 3, 4, 5, 6, 7, 8, 9]) rfl ?_; refine Z07 rfl rfl rfl rfl Z4w ?_; refine Z0e rfl rfl rfl rfl Z7m mm0 rfl ?_; refine Z07 rfl rfl rfl rfl Z4w ?_; refine Z0e rfl rfl rfl rfl Z7m mm0 rfl ?_; refine Z26 (xs := n0.Arcs) h_n0f3.len rfl rfl rfl rfl rfl Z3w ?_; refine Z05 rfl rfl rfl rfl ?_; refine TO.min2 rfl rfl rfl rfl rfl ?_; refine TO.slH (xs := n0.Arcs) h_n0f3.len h_n0f3.cap g3 rfl rfl rfl rfl rfl Z3w Z55 ?_; refine Z26 (xs := (n0.Arcs.take (min (n0.Arcs.length : Int) arcs2).toNat)) ((RS.take h_n0f3 g3).len) rfl rfl rfl rfl rfl Z3w ?_; refine Z05 rfl rfl rfl rfl ?_; refine Z02 ?_; refine Z01 ?_; refine Z0k (Z00 (t := 6) rfl (Z00 (t := 7) rfl (Z00 (t := 49) rfl (Z00 (t := 50) rfl (Z00 (t := 51) rfl Z08))))) ?_; refine Zc8 (fun (a4 : List Arc) (c8 : Nat) (c9 : Nat) (a6 : Option Nat) (d8 : List Value) => Z51 r6 a7 a9 a4 = some r0 ∧ a4.length = c8 ∧ c8 ≤ c9 ∧ d8.length = (c9 - c8) * 3 ∧ (a6 = none → c9 = 0)) (fun (a4 : List Arc) (c8 : Nat) (c9 : Nat) (a6 : Option Nat) (d8 : List Value) => [(6, .pointer (some ⟨b3, 0, none⟩)), (7, .pointer (some ⟨b9, 0, none⟩))]) (fun (a4 : List Arc) (c8 : Nat) (c9 : Nat) (a6 : Option Nat) (d8 : List Value) => [(some b3, .cells #[.int .i64 0, .int .i64 0, .int .i64 0, .slice none 0 0] 24 (0, 0)), (some b9, .cells #[.int .i64 (2 + r6), .int .i64 a7, .int .i64 a9, .slice (sb a6) c8 c9] 24 (0, 0)), (a6, .cells (arr Z4g a4 d8).toArray 35 (0, 0))]) ?_ ?_
  ·
   refine T.block ?_; obtain ⟨j9, e1, k1⟩ := Z0l H; refine Zig (fun (d9 : Nat) (a2 : List Arc) (a8 : Nat) (b0 : Nat) (a3 : Option Nat) (b5 : List Value) (a5 : Int) => Z28 (fun s => Z44 n0 arcs2 r6 s.1 s.2) d9 (a2, a5) = some j9 ∧ a2.length = a8 ∧ a8 ≤ b0 ∧ b5.length = (b0 - a8) * 3 ∧ (a3 = none → b0 = 0)) (fun (d9 : Nat) (a2 : List Arc) (a8 : Nat) (b0 : Nat) (a3 : Option Nat) (b5 : List Value) (a5 : Int) => [(6, .pointer (some ⟨b3, 0, none⟩)), (7, .pointer (some ⟨b9, 0, none⟩)), (49, .slice n0f3_b ((min (n0.Arcs.length : Int) arcs2).toNat) n0f3_c), (50, .int .i64 ((n0.Arcs.take (min (n0.Arcs.length : Int) arcs2).toNat).length : Int)), (51, .int .i64 a5)]) (fun (d9 : Nat) (a2 : List Arc) (a8 : Nat) (b0 : Nat) (a3 : Option Nat) (b5 : List Value) (a5 : Int) => [(some b3, .cells #[.int .i64 0, .int .i64 0, .int .i64 0, .slice none 0 0] 24 (0, 0)), (some b9, .cells #[.int .i64 (2 + r6), .int .i64 a7, .int .i64 a9, .slice (sb a3) a8 b0] 24 (0, 0)), (a3, .cells (arr Z4g a2 b5).toArray 35 (0, 0))]) (fun (d9 : Nat) (a2 : List Arc) (a8 : Nat) (b0 : Nat) (a3 : Option Nat) (b5 : List Value) (a5 : Int) => d9) Z4d ([]) 0 0 none ([]) 0 ⟨e1, rfl, (Nat.le_refl _), (Z33 0 _), (fun _ => rfl)⟩ (Z00 rfl (Z00 rfl (Z00 rfl (Z00 rfl (Z00 rfl Z08))))) (Z04 tk1 (Z04 tk1 (Pick.none Z09))) ?_; rintro d9 a2 a8 b0 a3 b5 a5 ⟨H, d1, e2, e3, e4⟩; obtain ⟨k2, i9, rfl, H, j0⟩ := Z1c H; have H : Z44 n0 arcs2 r6 a2 a5 = some i9 := H; unfold Z44 at H; refine Z0b ?_; refine Z03 (ll := [0]) rfl ?_; refine Z0r rfl rfl rfl rfl rfl rfl ?_; refine Z02 ?_; refine Z01 ?_; refine Z0b ?_; rcases Z0g H with ⟨g7, H⟩ | ⟨g7, H⟩
   ·
    refine Z14 rfl g7 ?_; refine T.skip ?_; refine Z01 ?_; refine Z0b ?_; refine T.block ?_; refine Z0b ?_; obtain ⟨j1, H⟩ := Z0d H; refine Z03 (ll := [0, 1, 2, 3]) rfl ?_; refine Z2k (RS.take h_n0f3 g3) j1 rfl rfl rfl rfl rfl Z3w Z55 ?_; refine Z8o (cs := [.int .i64 (((n0.Arcs.take (min (n0.Arcs.length : Int) arcs2).toNat).getD a5.toNat default).fr), .int .i64 (((n0.Arcs.take (min (n0.Arcs.length : Int) arcs2).toNat).getD a5.toNat default).to), .int .i64 (((n0.Arcs.take (min (n0.Arcs.length : Int) arcs2).toNat).getD a5.toNat default).cap)]) default (RS.take h_n0f3 g3) j1 rfl rfl rfl rfl rfl Z8i ?_; refine Z1i rfl rfl rfl Zag ?_; intro g4; refine Z1b rfl rfl rfl rfl tk0 Z55 rfl rfl rfl ?_; refine Z02 ?_; refine Z01 ?_; refine Z0b ?_; refine Z03 (ll := [0, 1, 2]) rfl ?_; refine Z07 rfl rfl rfl rfl Z6y ?_; refine Z0e rfl rfl rfl rfl Zb2 mm0 rfl ?_; refine Z06 rfl rfl rfl rfl ?_; refine Z02 ?_; refine Z01 ?_; refine Z0b ?_; refine Z0b ?_; refine Z03 (ll := [0, 1]) rfl ?_; refine Z05 rfl rfl rfl rfl ?_; refine Z0r rfl rfl rfl rfl rfl rfl ?_; refine Z02 ?_; refine Z01 ?_; refine Z1l (fun (c7 : Int) => Z3e n0 arcs2 r6 a2 a5 c7 = some i9) (fun (c7 : Int) => [(6, .pointer (some ⟨b3, 0, none⟩)), (7, .pointer (some ⟨b9, 0, none⟩)), (9, .pointer (some ⟨g4, 0, none⟩)), (10, .int .i64 c7), (49, .slice n0f3_b ((min (n0.Arcs.length : Int) arcs2).toNat) n0f3_c), (50, .int .i64 ((n0.Arcs.take (min (n0.Arcs.length : Int) arcs2).toNat).length : Int)), (51, .int .i64 a5)]) (fun (c7 : Int) => [(some b3, .cells #[.int .i64 0, .int .i64 0, .int .i64 0, .slice none 0 0] 24 (0, 0)), (some b9, .cells #[.int .i64 (2 + r6), .int .i64 a7, .int .i64 a9, .slice (sb a3) a8 b0] 24 (0, 0)), (a3, .cells (arr Z4g a2 b5).toArray 35 (0, 0)), (some g4, .cells #[.int .i64 (((n0.Arcs.take (min (n0.Arcs.length : Int) arcs2).toNat).getD a5.toNat default).fr), .int .i64 (((n0.Arcs.take (min (n0.Arcs.length : Int) arcs2).toNat).getD a5.toNat default).to), .int .i64 (((n0.Arcs.take (min (n0.Arcs.length : Int) arcs2).toNat).getD a5.toNat default).cap)] 35 (0, 0))]) ?_ ?_
    ·
     rcases Z0g H with ⟨g9, H⟩ | ⟨g9, H⟩
     · refine Z14 rfl g9 ?_; obtain ⟨k3, H⟩ := Z0d H; obtain ⟨k4, H⟩ := Z0d H; refine Z03 (ll := [0, 1, 2, 3]) rfl ?_; refine Z05 rfl rfl rfl rfl ?_; refine Z18 k3 rfl rfl rfl rfl rfl ?_; refine TO.negG k4 rfl rfl rfl rfl ?_; refine Z06 rfl rfl rfl rfl ?_; refine Z02 ?_; exact Z24 (-((((n0.Arcs.take (min (n0.Arcs.length : Int) arcs2).toNat).getD a5.toNat default).cap) + 1)) H (Z00 rfl (Z00 rfl (Z00 rfl (Z00 rfl (Z00 rfl (Z00 rfl (Z00 rfl Z08))))))) (Z04 tk1 (Z04 tk1 (Z04 tk1 (Z04 tk0 Z09))))
     · refine Z15 rfl g9 ?_; refine T.skip ?_; exact Z24 (((n0.Arcs.take (min (n0.Arcs.length : Int) arcs2).toNat).getD a5.toNat default).cap) H (Z00 rfl (Z00 rfl (Z00 rfl (Z00 rfl (Z00 rfl (Z00 rfl (Z00 rfl Z08))))))) (Z04 tk1 (Z04 tk1 (Z04 tk1 (Z04 tk0 Z09))))
    ·
     rintro c7 H; unfold Z3e at H; obtain ⟨e5, k5, H⟩ := Z0l H; obtain ⟨e6, k6, H⟩ := Z0l H; obtain ⟨k7, H⟩ := Z0d H; apply Zdc [⟨[], false, [], Z5v _⟩, ⟨[0], false, [], Z5v _⟩, ⟨[], false, [], Z5v _⟩, ⟨[2], false, [], Z5v _⟩, ⟨[], false, [], Z5v _⟩, ⟨[4], false, [], Z5v _⟩, ⟨[3, 5], false, [], Z5v _⟩, ⟨[], false, [], Z5v _⟩, ⟨[7], false, [], Z5v _⟩, ⟨[], false, [], Z5v _⟩, ⟨[9], false, [], Z5v _⟩, ⟨[8, 10], false, [], Z5v _⟩, ⟨[], false, [], Z5v _⟩, ⟨[12], false, [], Z5v _⟩, ⟨[6, 11, 13], false, [], Z5v _⟩, ⟨[14], false, [], fun _ v e => ∃ (e0 : Nat), v = .slice (some ⟨e0, 0, none⟩) 1 1 ∧ e = [(some e0, .cells (arr Z4g ([(Arc.mk e5 e6 (c7.tmod 1125899906842624))]) ([])).toArray 35 (0, 0))]⟩] [62, 63, 64, 65, 66, 67, 68, 69, 70, 71, 72, 73, 74, 75, 76, 77] 16 (HRk [[]]) [[]] [] [(some b3, .cells #[.int .i64 0, .int .i64 0, .int .i64 0, .slice none 0 0] 24 (0, 0)), (some b9, .cells #[.int .i64 (2 + r6), .int .i64 a7, .int .i64 a9, .slice (sb a3) a8 b0] 24 (0, 0)), (a3, .cells (arr Z4g a2 b5).toArray 35 (0, 0)), (some g4, .cells #[.int .i64 (((n0.Arcs.take (min (n0.Arcs.length : Int) arcs2).toNat).getD a5.toNat default).fr), .int .i64 (((n0.Arcs.take (min (n0.Arcs.length : Int) arcs2).toNat).getD a5.toNat default).to), .int .i64 (((n0.Arcs.take (min (n0.Arcs.length : Int) arcs2).toNat).getD a5.toNat default).cap)] 35 (0, 0))]
     · exact Z4y
     · exact rfl
     · kernel_rfl
     · kernel_rfl
     · kernel_rfl
     · exact rfl
     · exact rfl
     · exact rfl
     · exact rfl
     · exact (by repeat (first | exact Z0a _ | exact Z09 | apply Pick.none | refine Z04 (by repeat (first | exact Take.head _ _ | apply Take.tail)) ?_))
     ·
      refine ⟨?_, ?_, ?_, ?_, ?_, ?_, ?_, ?_, ?_, ?_, ?_, ?_, ?_, ?_, ?_, ?_, trivial⟩
      · rintro vs es Es Hx -; refine Z0m (D := []) rfl ?_; refine Z07 rfl rfl rfl rfl Z4w ?_; refine Z02 ?_; exact Z1t rfl ⟨rfl, rfl⟩ (Z0a _) rfl
      · rintro vs es Es Hx ⟨⟨e8, h0⟩, -⟩; refine Z0m (D := [(62, vs 0)]) rfl ?_; rw [e8]; refine Z0e rfl rfl rfl rfl Z7m mm1 rfl ?_; refine Z02 ?_; exact Z1t rfl ⟨rfl, rfl⟩ (Z0a _) (by show [(62, vs 0)] = _; rw [e8])
      · rintro vs es Es Hx -; refine Z0m (D := []) rfl ?_; refine Z07 rfl rfl rfl rfl Z64 ?_; refine Z02 ?_; exact Z1t rfl ⟨rfl, rfl⟩ (Z0a _) rfl
      · rintro vs es Es Hx ⟨⟨e9, e1⟩, -⟩; refine Z0m (D := [(64, vs 2)]) rfl ?_; rw [e9]; refine Z0e rfl rfl rfl rfl Z17 mm3 rfl ?_; refine Z02 ?_; exact Z1t rfl ⟨rfl, rfl⟩ (Z0a _) (by show [(64, vs 2)] = _; rw [e9])
      · rintro vs es Es Hx -; refine Z0m (D := []) rfl ?_; refine Z07 rfl rfl rfl rfl Z38 ?_; refine Z02 ?_; exact Z1t rfl ⟨rfl, rfl⟩ (Z0a _) rfl
      · rintro vs es Es Hx ⟨⟨f0, h1⟩, -⟩; refine Z0m (D := [(66, vs 4)]) rfl ?_; rw [f0]; refine Z0e rfl rfl rfl rfl Z17 mm1 rfl ?_; refine Z02 ?_; exact Z1t rfl ⟨rfl, rfl⟩ (Z0a _) (by show [(66, vs 4)] = _; rw [f0])
      · rintro vs es Es Hx ⟨⟨f2, h2⟩, ⟨f3, h3⟩, -⟩; refine Z0m (D := [(65, vs 3), (67, vs 5)]) rfl ?_; rw [f2, f3]; refine Z0n Zbr rfl rfl rfl rfl (fun wc hwc => Z4o (x0 := ((n0.Arcs.take (min (n0.Arcs.length : Int) arcs2).toNat).getD a5.toNat default).fr) (n1 := (2 + r6)) wc  k5) ?_; rintro _ _ ⟨rfl, rfl⟩; refine Z02 ?_; exact Z1t rfl ⟨rfl, rfl⟩ (Z0a _) (by show [(65, vs 3), (67, vs 5)] = _; rw [f2, f3])
      · rintro vs es Es Hx -; refine Z0m (D := []) rfl ?_; refine Z07 rfl rfl rfl rfl Z6z ?_; refine Z02 ?_; exact Z1t rfl ⟨rfl, rfl⟩ (Z0a _) rfl
      · rintro vs es Es Hx ⟨⟨f4, h4⟩, -⟩; refine Z0m (D := [(69, vs 7)]) rfl ?_; rw [f4]; refine Z0e rfl rfl rfl rfl Z17 mm3 rfl ?_; refine Z02 ?_; exact Z1t rfl ⟨rfl, rfl⟩ (Z0a _) (by show [(69, vs 7)] = _; rw [f4])
      · rintro vs es Es Hx -; refine Z0m (D := []) rfl ?_; refine Z07 rfl rfl rfl rfl Z38 ?_; refine Z02 ?_; exact Z1t rfl ⟨rfl, rfl⟩ (Z0a _) rfl
      · rintro vs es Es Hx ⟨⟨f5, h5⟩, -⟩; refine Z0m (D := [(71, vs 9)]) rfl ?_; rw [f5]; refine Z0e rfl rfl rfl rfl Z17 mm1 rfl ?_; refine Z02 ?_; exact Z1t rfl ⟨rfl, rfl⟩ (Z0a _) (by show [(71, vs 9)] = _; rw [f5])
      · rintro vs es Es Hx ⟨⟨f6, h6⟩, ⟨b6, d3⟩, -⟩; refine Z0m (D := [(70, vs 8), (72, vs 10)]) rfl ?_; rw [f6, b6]; refine Z0n Zbr rfl rfl rfl rfl (fun wc hwc => Z4o (x0 := ((n0.Arcs.take (min (n0.Arcs.length : Int) arcs2).toNat).getD a5.toNat default).to) (n1 := (2 + r6)) wc  k6) ?_; rintro _ _ ⟨rfl, rfl⟩; refine Z02 ?_; exact Z1t rfl ⟨rfl, rfl⟩ (Z0a _) (by show [(70, vs 8), (72, vs 10)] = _; rw [f6, b6])
      · rintro vs es Es Hx -; refine Z0m (D := []) rfl ?_; refine Z05 rfl rfl rfl rfl ?_; refine Z02 ?_; exact Z1t rfl ⟨rfl, rfl⟩ (Z0a _) rfl
      · rintro vs es Es Hx ⟨⟨b7, d4⟩, -⟩; refine Z0m (D := [(74, vs 12)]) rfl ?_; rw [b7]; refine TO.rem rfl rfl rfl rfl rfl (by decide) ?_; refine Z02 ?_; exact Z1t rfl ⟨rfl, rfl⟩ (Z0a _) (by show [(74, vs 12)] = _; rw [b7])
      · rintro vs es Es Hx ⟨⟨f7, h7⟩, ⟨b8, d5⟩, ⟨c3, d6⟩, -⟩; refine Z0m (D := [(68, vs 6), (73, vs 11), (75, vs 13)]) rfl ?_; rw [f7, b8, c3]; refine Z2l (t := 35) [.int .i64 0, .int .i64 0, .int .i64 0] [0, 1, 2] rfl rfl rfl rfl (by simp only [Z1m, setCells, Value.cells, List.toList_toArray, List.getD_cons_zero, List.getD_cons_succ, List.set_cons_zero, List.set_cons_succ]; rfl) (by kernel_rfl) ?_; refine Z02 ?_; exact Z1t rfl ⟨rfl, rfl⟩ (Z0a _) (by show [(68, vs 6), (73, vs 11), (75, vs 13)] = _; rw [f7, b8, c3])
      · rintro vs es Es Hx ⟨⟨c4, d7⟩, -⟩; refine Z0m (D := [(76, vs 14)]) rfl ?_; rw [c4]; refine Z0s [.int .i64 0, .int .i64 0, .int .i64 0] [0] rfl rfl rfl rfl Z3w Z55 Zag rfl rfl (by simp only [Z1m, setCells, Value.cells, List.toList_toArray, List.getD_cons_zero, List.getD_cons_succ, List.set_cons_zero, List.set_cons_succ]; rfl) (by kernel_rfl) ?_; intro e0; refine Z02 ?_; exact Z1t rfl ⟨e0, rfl, rfl⟩ (by repeat (first | exact Z0a _ | exact Z09 | apply Pick.none | refine Z04 (by repeat (first | exact Take.head _ _ | apply Take.tail)) ?_)) (by show [(76, vs 14)] = _; rw [c4])
     · rintro vs es hb ⟨⟨e8, h0⟩, ⟨j2, j3⟩, ⟨e9, e1⟩, ⟨f2, h2⟩, ⟨f0, h1⟩, ⟨f3, h3⟩, ⟨f7, h7⟩, ⟨f4, h4⟩, ⟨f6, h6⟩, ⟨f5, h5⟩, ⟨b6, d3⟩, ⟨b8, d5⟩, ⟨b7, d4⟩, ⟨c3, d6⟩, ⟨c4, d7⟩, ⟨e0, f8, f9⟩, -⟩ hHR; obtain rfl : hb = [] := hHR; refine Z0m (D := [(62, vs 0), (63, vs 1), (64, vs 2), (65, vs 3), (66, vs 4), (67, vs 5), (68, vs 6), (69, vs 7), (70, vs 8), (71, vs 9), (72, vs 10), (73, vs 11), (74, vs 12), (75, vs 13), (76, vs 14), (77, vs 15)]) rfl ?_; refine Z2z (H := [(some b3, .cells #[.int .i64 0, .int .i64 0, .int .i64 0, .slice none 0 0] 24 (0, 0)), (some b9, .cells #[.int .i64 (2 + r6), .int .i64 a7, .int .i64 a9, .slice (sb a3) a8 b0] 24 (0, 0)), (a3, .cells (arr Z4g a2 b5).toArray 35 (0, 0)), (some g4, .cells #[.int .i64 (((n0.Arcs.take (min (n0.Arcs.length : Int) arcs2).toNat).getD a5.toNat default).fr), .int .i64 (((n0.Arcs.take (min (n0.Arcs.length : Int) arcs2).toNat).getD a5.toNat default).to), .int .i64 (((n0.Arcs.take (min (n0.Arcs.length : Int) arcs2).toNat).getD a5.toNat default).cap)] 35 (0, 0)), (some e0, .cells (arr Z4g ([(Arc.mk e5 e6 (c7.tmod 1125899906842624))]) ([])).toArray 35 (0, 0))]) (by show _ ++ (_ ++ (es 0 ++ (es 1 ++ (es 2 ++ (es 3 ++ (es 4 ++ (es 5 ++ (es 6 ++ (es 7 ++ (es 8 ++ (es 9 ++ (es 10 ++ (es 11 ++ (es 12 ++ (es 13 ++ (es 14 ++ (es 15 ++ ([])))))))))))))))))) = _; rw [h0, j3, e1, h2, h1, h3, h7, h4, h6, h5, d3, d5, d4, d6, d7, f9]; rfl) ?_; rw [e8, j2, e9, f2, f0, f3, f7, f4, f6, f5, b6, b8, b7, c3, c4, f8]; clear f8 c4 c3 b7 b8 b6 f5 f6 f4 f7 f3 f0 f2 e9 j2 e8 h0 j3 e1 h2 h1 h3 h7 h4 h6 h5 d3 d5 d4 d6 d7 f9; refine Zhi (f := Z4g) (s := 3) (xs := a2) (ob := a3) (j := b5) (ys := [(Arc.mk e5 e6 (c7.tmod 1125899906842624))]) (fun _ => rfl) (fun _ => rfl) Zp7 k7 rfl rfl rfl rfl rfl tk2 d1 e2 e3 e4 (fun wc hwc => (hwc.rs (f := Z4g) (s := 3) (xs := [(Arc.mk e5 e6 (c7.tmod 1125899906842624))]) (j := ([])) (fun _ => rfl) mm4 rfl (Nat.le_refl _) Z1e)) ?_; intro g0 j4 k8 h8 h9 i1; refine Z07 rfl rfl rfl rfl Z4w ?_; refine Z2h (cs' := [.int .i64 (2 + r6), .int .i64 a7, .int .i64 a9, .slice (sb g0) (a8 + 1) j4]) rfl rfl rfl rfl tk2 Zpm rfl rfl rfl ?_; refine Z02 ?_; refine Z0h ?_; refine Z01 ?_; refine Z0k (Z00 (t := 6) rfl (Z00 (t := 7) rfl (Z00 (t := 49) rfl (Z00 (t := 50) rfl (Z00 (t := 51) rfl Z08))))) ?_; obtain ⟨k9, H⟩ := Z0d H; refine Z03 (ll := [0, 1]) rfl ?_; refine Z18 k9 rfl rfl rfl rfl rfl ?_; refine Z05 rfl rfl rfl rfl ?_; refine Z02 ?_; have H := Z16 H j0; exact Zft k2 (a2 ++ ([(Arc.mk e5 e6 (c7.tmod 1125899906842624))])) (a8 + 1) j4 g0 k8 (a5 + 1) ⟨H, (Zj6 d1 rfl), h8, h9, i1⟩ (Nat.lt_succ_self _) (Z00 rfl (Z00 rfl (Z00 rfl (Z00 rfl (Z00 rfl Z08))))) (Z04 tk2 (Z04 tk0 (Z04 tk0 Z09)))
   · refine Z15 rfl g7 ?_; refine T.exit ?_; refine Z0j ?_; have H := Z0v H j0 ▸ k1; refine Z0j ?_; refine Z0x ?_; exact Zfs a2 a8 b0 a3 b5 ⟨H, d1, e2, e3, e4⟩ (Z00 rfl (Z00 rfl Z08)) (Z04 tk0 (Z04 tk0 (Z04 tk0 Z09)))
  · rintro a4 c8 c9 a6 d8 ⟨H, i2, i4, i5, i6⟩; unfold Z51 at H; refine Z0b ?_; refine Z03 (ll := [0, 1]) rfl ?_; refine Z0q rfl rfl rfl rfl Z2u mm1 rfl ?_; refine Z1b rfl rfl rfl rfl tk0 Zjw rfl rfl rfl ?_; refine Z02 ?_; refine Z01 ?_; refine T.ret ?_; obtain rfl := ret1 H; exact Z10 rfl rfl rfl rfl (Z9j rfl Z2u mm0 rfl) (Z04 tk2 Z09) ⟨a6, c8, c9, d8, rfl, rfl, i2, i4, i5, i6⟩
theorem Zeu (w : World) (H : Z6q = some ()) : Fnc Try.prog 129 #[.func (.func 130) #[] #[]] w [] (fun v N => ∃ (a2 : Nat), v = .func (.func 138) #[] #[.pointer (some ⟨a2, 0, none⟩)] ∧ N = [(some a2, .cells #[.func (.func 130) #[] #[]] 174 (0, 0))]) := by
 unfold Z6q at H; refine Fnc.enter (vs := [.func (.func 130) #[] #[]]) Try.func129 rfl rfl (Inv.refl w) ?_; refine Z0b ?_; refine Z03 (ll := [0, 1]) rfl ?_; refine TO.box rfl rfl rfl rfl ?_; intro b1; refine Z06 rfl rfl rfl rfl ?_; refine Z02 ?_; refine Z01 ?_; refine Z0b ?_; refine Z03 (ll := [0, 1]) rfl ?_; refine TO.makeFunc rfl rfl rfl rfl rfl ?_; refine Z06 rfl rfl rfl rfl ?_; refine Z02 ?_; refine Z01 ?_; refine T.ret ?_; exact Z10 rfl rfl rfl rfl (Res.tmp rfl) (Z04 tk0 Z09) ⟨b1, rfl, rfl⟩
theorem Zet (w : World) (H : Z6p = some ()) : Fnc Try.prog 129 #[.func (.func 131) #[] #[]] w [] (fun v N => ∃ (a2 : Nat), v = .func (.func 138) #[] #[.pointer (some ⟨a2, 0, none⟩)] ∧ N = [(some a2, .cells #[.func (.func 131) #[] #[]] 174 (0, 0))]) := by
 unfold Z6p at H; refine Fnc.enter (vs := [.func (.func 131) #[] #[]]) Try.func129 rfl rfl (Inv.refl w) ?_; refine Z0b ?_; refine Z03 (ll := [0, 1]) rfl ?_; refine TO.box rfl rfl rfl rfl ?_; intro b1; refine Z06 rfl rfl rfl rfl ?_; refine Z02 ?_; refine Z01 ?_; refine Z0b ?_; refine Z03 (ll := [0, 1]) rfl ?_; refine TO.makeFunc rfl rfl rfl rfl rfl ?_; refine Z06 rfl rfl rfl rfl ?_; refine Z02 ?_; refine Z01 ?_; refine T.ret ?_; exact Z10 rfl rfl rfl rfl (Res.tmp rfl) (Z04 tk0 Z09) ⟨b1, rfl, rfl⟩
theorem Zkg (w : World) (H : Zav = some ()) : Fnc Try.prog 107 #[] w [] (fun v N => ∃ (a2 : Nat) (a3 : Nat), v = .agg #[.func (.func 125) #[] #[], .int .i64 10, .func (.func 126) #[] #[], .int .i64 11, .func (.func 127) #[] #[], .int .i64 12, .func (.func 138) #[] #[.pointer (some ⟨a2, 0, none⟩)], .int .i64 13, .func (.func 138) #[] #[.pointer (some ⟨a3, 0, none⟩)], .int .i64 14, .func (.func 132) #[] #[], .int .i64 15] ∧ N = [(some a2, .cells #[.func (.func 130) #[] #[]] 174 (0, 0)), (some a3, .cells #[.func (.func 131) #[] #[]] 174 (0, 0))]) := by
 unfold Zav at H; refine Fnc.enter (vs := []) Try.func107 rfl rfl (Inv.refl w) ?_; refine Z0b ?_; refine Z03 (ll := [0]) rfl ?_; refine Z1i rfl rfl rfl Zn5 ?_; intro b1; refine Z02 ?_; refine Z01 ?_; refine Z0b ?_; obtain ⟨⟨⟩, e3, H⟩ := Z0l H; obtain ⟨⟨⟩, e6, H⟩ := Z0l H; refine Z03 (ll := [0, 1, 2, 3, 4, 5, 6, 7, 8, 9]) rfl ?_; refine Z2l (t := 158) [.nilFunc, .int .i64 0] [0, 1] rfl rfl rfl rfl (by simp only [Z1m, setCells, Value.cells, List.toList_toArray, List.getD_cons_zero, List.getD_cons_succ, List.set_cons_zero, List.set_cons_succ]; rfl) (by kernel_rfl) ?_; refine Z2l (t := 158) [.nilFunc, .int .i64 0] [0, 1] rfl rfl rfl rfl (by simp only [Z1m, setCells, Value.cells, List.toList_toArray, List.getD_cons_zero, List.getD_cons_succ, List.set_cons_zero, List.set_cons_succ]; rfl) (by kernel_rfl) ?_; refine Z2l (t := 158) [.nilFunc, .int .i64 0] [0, 1] rfl rfl rfl rfl (by simp only [Z1m, setCells, Value.cells, List.toList_toArray, List.getD_cons_zero, List.getD_cons_succ, List.set_cons_zero, List.set_cons_succ]; rfl) (by kernel_rfl) ?_; refine Z0n Zhc rfl rfl rfl rfl (fun wc hwc => Zeu  wc  e3) ?_; rintro _ _ ⟨b4, rfl, rfl⟩; refine Z2l (t := 158) [.nilFunc, .int .i64 0] [0, 1] rfl rfl rfl rfl (by simp only [Z1m, setCells, Value.cells, List.toList_toArray, List.getD_cons_zero, List.getD_cons_succ, List.set_cons_zero, List.set_cons_succ]; rfl) (by kernel_rfl) ?_; refine Z0n Zhc rfl rfl rfl rfl (fun wc hwc => Zet  wc  e6) ?_; rintro _ _ ⟨b7, rfl, rfl⟩; refine Z2l (t := 158) [.nilFunc, .int .i64 0] [0, 1] rfl rfl rfl rfl (by simp only [Z1m, setCells, Value.cells, List.toList_toArray, List.getD_cons_zero, List.getD_cons_succ, List.set_cons_zero, List.set_cons_succ]; rfl) (by kernel_rfl) ?_; refine Z2l (t := 158) [.nilFunc, .int .i64 0] [0, 1] rfl rfl rfl rfl (by simp only [Z1m, setCells, Value.cells, List.toList_toArray, List.getD_cons_zero, List.getD_cons_succ, List.set_cons_zero, List.set_cons_succ]; rfl) (by kernel_rfl) ?_; refine Z2l (t := 159) [.nilFunc, .int .i64 0, .nilFunc, .int .i64 0, .nilFunc, .int .i64 0, .nilFunc, .int .i64 0, .nilFunc, .int .i64 0, .nilFunc, .int .i64 0] [0, 2, 4, 6, 8, 10] rfl rfl rfl rfl (by simp only [Z1m, setCells, Value.cells, List.toList_toArray, List.getD_cons_zero, List.getD_cons_succ, List.set_cons_zero, List.set_cons_succ]; rfl) (by kernel_rfl) ?_; refine Z1b rfl rfl rfl rfl tk2 Zn6 rfl rfl rfl ?_; refine Z02 ?_; refine Z01 ?_; refine Z0k (Z00 (t := 0) rfl Z08) ?_; refine T.ret ?_; exact Z10 rfl rfl rfl rfl (Z9j rfl Znf mm0 rfl) (Z04 tk2 (Z04 tk1 Z09)) ⟨b4, b7, rfl, rfl⟩
theorem Zhp {n0 : Net} {n0f3_b : Option Addr} {n0f3_n : Nat} {n0f3_c : Nat} (w : World) (h_n0f3 : RS w [] Z4g 3 n0f3_b n0f3_n n0f3_c n0.Arcs) {r0 : Bool} (H : Z8t n0 = some r0) : Fnc Try.prog 125 #[.agg #[.int .i64 n0.N, .int .i64 n0.S, .int .i64 n0.T, .slice n0f3_b n0f3_n n0f3_c]] w [] (fun v N => v = .bool r0 ∧ N = []) := by
 unfold Z8t at H; refine Fnc.enter (vs := [.agg #[.int .i64 n0.N, .int .i64 n0.S, .int .i64 n0.T, .slice n0f3_b n0f3_n n0f3_c]]) Try.func125 rfl rfl (Inv.refl w) ?_; refine Z0b ?_; refine Z03 (ll := [0, 1]) rfl ?_; refine Z1p rfl rfl rfl rfl ?_; intro b1; refine Z06 rfl rfl rfl rfl ?_; refine Z02 ?_; refine Z01 ?_; refine Z0b ?_; rcases Z0g H with ⟨g3, H⟩ | ⟨g3, H⟩
 · refine Z03 (ll := [0, 1, 2, 3, 4, 5, 6, 7, 8]) rfl ?_; refine Z07 rfl rfl rfl rfl Z38 ?_; refine Z0e rfl rfl rfl rfl Z17 mm0 rfl ?_; refine Z0r rfl rfl rfl rfl rfl rfl ?_; refine Z05 rfl rfl rfl rfl ?_; refine Z0u (t := 6) (b' := true) rfl (decide_eq_true g3) ?_; refine Z07 rfl rfl rfl rfl Z38 ?_; refine Z0e rfl rfl rfl rfl Z17 mm0 rfl ?_; refine Z0r rfl rfl rfl rfl rfl rfl ?_; refine Z0w rfl rfl rfl rfl rfl ?_; refine Z06 rfl rfl rfl rfl ?_; refine Z02 ?_; refine Z01 ?_; refine Z0k (Z00 (t := 2) rfl Z08) ?_; refine T.ret ?_; obtain rfl := ret1 H; exact Z10 rfl rfl rfl rfl (Res.tmp rfl) Z09 ⟨rfl, rfl⟩
 · refine Z03 (ll := [0, 1, 2, 3, 4, 5, 6, 7, 8]) rfl ?_; refine Z07 rfl rfl rfl rfl Z38 ?_; refine Z0e rfl rfl rfl rfl Z17 mm0 rfl ?_; refine Z0r rfl rfl rfl rfl rfl rfl ?_; refine Z05 rfl rfl rfl rfl ?_; refine Z0u (t := 6) (b' := false) rfl (decide_eq_false g3) ?_; refine Z0c rfl rfl rfl rfl ?_; refine Z0c rfl rfl rfl rfl ?_; refine Z0c rfl rfl rfl rfl ?_; refine Z0z rfl rfl rfl rfl rfl ?_; refine Z06 rfl rfl rfl rfl ?_; refine Z02 ?_; refine Z01 ?_; refine Z0k (Z00 (t := 2) rfl Z08) ?_; refine T.ret ?_; obtain rfl := ret1 H; exact Z10 rfl rfl rfl rfl (Res.tmp rfl) Z09 ⟨rfl, rfl⟩
theorem Zho {n0 : Net} {n0f3_b : Option Addr} {n0f3_n : Nat} {n0f3_c : Nat} (w : World) (h_n0f3 : RS w [] Z4g 3 n0f3_b n0f3_n n0f3_c n0.Arcs) {r0 : Bool} (H : Z8s n0 = some r0) : Fnc Try.prog 126 #[.agg #[.int .i64 n0.N, .int .i64 n0.S, .int .i64 n0.T, .slice n0f3_b n0f3_n n0f3_c]] w [] (fun v N => v = .bool r0 ∧ N = []) := by
 unfold Z8s at H; refine Fnc.enter (vs := [.agg #[.int .i64 n0.N, .int .i64 n0.S, .int .i64 n0.T, .slice n0f3_b n0f3_n n0f3_c]]) Try.func126 rfl rfl (Inv.refl w) ?_; refine Z0b ?_; refine Z03 (ll := [0, 1]) rfl ?_; refine Z1p rfl rfl rfl rfl ?_; intro b1; refine Z06 rfl rfl rfl rfl ?_; refine Z02 ?_; refine Z01 ?_; refine Z0b ?_; refine Z03 (ll := [0, 1, 2, 3, 4]) rfl ?_; refine Z07 rfl rfl rfl rfl Z4w ?_; refine Z0e rfl rfl rfl rfl Z7m mm0 rfl ?_; refine Z26 (xs := n0.Arcs) h_n0f3.len rfl rfl rfl rfl rfl Z3w ?_; refine Z0r rfl rfl rfl rfl rfl rfl ?_; refine Z06 rfl rfl rfl rfl ?_; refine Z02 ?_; refine Z01 ?_; refine T.ret ?_; obtain rfl := ret1 H; exact Z10 rfl rfl rfl rfl (Res.tmp rfl) Z09 ⟨rfl, rfl⟩
theorem Z57 {n0 : Net} {v1 : Int} {n0f3_b : Option Addr} {n0f3_n : Nat} {n0f3_c : Nat} (w : World) (h_n0f3 : RS w [] Z4g 3 n0f3_b n0f3_n n0f3_c n0.Arcs) {r0 : Bool} (H : Z58 n0 v1 = some r0) : Fnc Try.prog 128 #[.agg #[.int .i64 n0.N, .int .i64 n0.S, .int .i64 n0.T, .slice n0f3_b n0f3_n n0f3_c], .int .i64 v1] w [] (fun v N => v = .bool r0 ∧ N = []) := by
 unfold Z58 at H; refine Fnc.enter (vs := [.agg #[.int .i64 n0.N, .int .i64 n0.S, .int .i64 n0.T, .slice n0f3_b n0f3_n n0f3_c], .int .i64 v1]) Try.func128 rfl rfl (Inv.refl w) ?_; refine Z0b ?_; refine Z03 (ll := [0, 1]) rfl ?_; refine Z1p rfl rfl rfl rfl ?_; intro b1; refine Z06 rfl rfl rfl rfl ?_; refine Z02 ?_; refine Z01 ?_; refine Z0b ?_; rcases Z0g H with ⟨g3, H⟩ | ⟨g3, H⟩
 · refine Z03 (ll := [0, 1, 2, 3, 4, 5, 6, 7, 8]) rfl ?_; refine Z05 rfl rfl rfl rfl ?_; refine Z0r rfl rfl rfl rfl rfl rfl ?_; refine Z05 rfl rfl rfl rfl ?_; refine Z0u (t := 7) (b' := true) rfl (decide_eq_true g3) ?_; refine Z05 rfl rfl rfl rfl ?_; refine Z07 rfl rfl rfl rfl Z38 ?_; refine Z0e rfl rfl rfl rfl Z17 mm0 rfl ?_; refine Z0r rfl rfl rfl rfl rfl rfl ?_; refine Z0w rfl rfl rfl rfl rfl ?_; refine Z06 rfl rfl rfl rfl ?_; refine Z02 ?_; refine Z01 ?_; refine Z0k (Z00 (t := 4) rfl Z08) ?_; refine T.ret ?_; obtain rfl := ret1 H; exact Z10 rfl rfl rfl rfl (Res.tmp rfl) Z09 ⟨rfl, rfl⟩
 · refine Z03 (ll := [0, 1, 2, 3, 4, 5, 6, 7, 8]) rfl ?_; refine Z05 rfl rfl rfl rfl ?_; refine Z0r rfl rfl rfl rfl rfl rfl ?_; refine Z05 rfl rfl rfl rfl ?_; refine Z0u (t := 7) (b' := false) rfl (decide_eq_false g3) ?_; refine Z0c rfl rfl rfl rfl ?_; refine Z0c rfl rfl rfl rfl ?_; refine Z0c rfl rfl rfl rfl ?_; refine Z0c rfl rfl rfl rfl ?_; refine Z0z rfl rfl rfl rfl rfl ?_; refine Z06 rfl rfl rfl rfl ?_; refine Z02 ?_; refine Z01 ?_; refine Z0k (Z00 (t := 4) rfl Z08) ?_; refine T.ret ?_; obtain rfl := ret1 H; exact Z10 rfl rfl rfl rfl (Res.tmp rfl) Z09 ⟨rfl, rfl⟩
theorem Zhn {n0 : Net} {n0f3_b : Option Addr} {n0f3_n : Nat} {n0f3_c : Nat} (w : World) (h_n0f3 : RS w [] Z4g 3 n0f3_b n0f3_n n0f3_c n0.Arcs) {r0 : Bool} (H : Z8r n0 = some r0) : Fnc Try.prog 127 #[.agg #[.int .i64 n0.N, .int .i64 n0.S, .int .i64 n0.T, .slice n0f3_b n0f3_n n0f3_c]] w [] (fun v N => v = .bool r0 ∧ N = []) := by
 unfold Z8r at H; refine Fnc.enter (vs := [.agg #[.int .i64 n0.N, .int .i64 n0.S, .int .i64 n0.T, .slice n0f3_b n0f3_n n0f3_c]]) Try.func127 rfl rfl (Inv.refl w) ?_; refine Z0b ?_; refine Z03 (ll := [0, 1]) rfl ?_; refine Z1p rfl rfl rfl rfl ?_; intro b1; refine Z06 rfl rfl rfl rfl ?_; refine Z02 ?_; refine Z01 ?_; refine Z0b ?_; obtain ⟨r3, e4, H⟩ := Z0l H; rcases Z0g H with ⟨g5, H⟩ | ⟨g5, H⟩
 ·
  obtain ⟨r6, e7, H⟩ := Z0l H; rcases Z0g H with ⟨g8, H⟩ | ⟨g8, H⟩
  · refine Z03 (ll := [0, 1, 2, 3, 4, 5, 6, 7, 8, 9, 10, 11, 12, 13, 14, 15, 16, 17]) rfl ?_; refine Z0q rfl rfl rfl rfl Z2u mm0 rfl ?_; refine Z07 rfl rfl rfl rfl Z5g ?_; refine Z0e rfl rfl rfl rfl Z17 mm0 rfl ?_; refine Z0n Z78 rfl rfl rfl rfl (fun wc hwc => Z57 (n0 := n0) (v1 := n0.S) wc (h_n0f3.mono hwc) e4) ?_; rintro _ _ ⟨rfl, rfl⟩; refine Z05 rfl rfl rfl rfl ?_; refine Z0u (t := 7) (b' := true) rfl g5 ?_; refine Z0q rfl rfl rfl rfl Z2u mm0 rfl ?_; refine Z07 rfl rfl rfl rfl Z65 ?_; refine Z0e rfl rfl rfl rfl Z17 mm0 rfl ?_; refine Z0n Z78 rfl rfl rfl rfl (fun wc hwc => Z57 (n0 := n0) (v1 := n0.T) wc (h_n0f3.mono hwc) e7) ?_; rintro _ _ ⟨rfl, rfl⟩; refine Z0w rfl rfl rfl rfl rfl ?_; refine Z05 rfl rfl rfl rfl ?_; refine Z0u (t := 13) (b' := true) rfl g8 ?_; refine Z07 rfl rfl rfl rfl Z5g ?_; refine Z0e rfl rfl rfl rfl Z17 mm0 rfl ?_; refine Z07 rfl rfl rfl rfl Z65 ?_; refine Z0e rfl rfl rfl rfl Z17 mm0 rfl ?_; refine Z0r rfl rfl rfl rfl rfl rfl ?_; refine Z0w rfl rfl rfl rfl rfl ?_; refine Z06 rfl rfl rfl rfl ?_; refine Z02 ?_; refine Z01 ?_; refine Z0k (Z00 (t := 2) rfl Z08) ?_; refine T.ret ?_; obtain rfl := ret1 H; exact Z10 rfl rfl rfl rfl (Res.tmp rfl) Z09 ⟨rfl, rfl⟩
  · refine Z03 (ll := [0, 1, 2, 3, 4, 5, 6, 7, 8, 9, 10, 11, 12, 13, 14, 15, 16, 17]) rfl ?_; refine Z0q rfl rfl rfl rfl Z2u mm0 rfl ?_; refine Z07 rfl rfl rfl rfl Z5g ?_; refine Z0e rfl rfl rfl rfl Z17 mm0 rfl ?_; refine Z0n Z78 rfl rfl rfl rfl (fun wc hwc => Z57 (n0 := n0) (v1 := n0.S) wc (h_n0f3.mono hwc) e4) ?_; rintro _ _ ⟨rfl, rfl⟩; refine Z05 rfl rfl rfl rfl ?_; refine Z0u (t := 7) (b' := true) rfl g5 ?_; refine Z0q rfl rfl rfl rfl Z2u mm0 rfl ?_; refine Z07 rfl rfl rfl rfl Z65 ?_; refine Z0e rfl rfl rfl rfl Z17 mm0 rfl ?_; refine Z0n Z78 rfl rfl rfl rfl (fun wc hwc => Z57 (n0 := n0) (v1 := n0.T) wc (h_n0f3.mono hwc) e7) ?_; rintro _ _ ⟨rfl, rfl⟩; refine Z0w rfl rfl rfl rfl rfl ?_; refine Z05 rfl rfl rfl rfl ?_; refine Z0u (t := 13) (b' := false) rfl (Bool.eq_false_iff.2 g8) ?_; refine Z0c rfl rfl rfl rfl ?_; refine Z0c rfl rfl rfl rfl ?_; refine Z0c rfl rfl rfl rfl ?_; refine Z0c rfl rfl rfl rfl ?_; refine Z0c rfl rfl rfl rfl ?_; refine Z0z rfl rfl rfl rfl rfl ?_; refine Z06 rfl rfl rfl rfl ?_; refine Z02 ?_; refine Z01 ?_; refine Z0k (Z00 (t := 2) rfl Z08) ?_; refine T.ret ?_; obtain rfl := ret1 H; exact Z10 rfl rfl rfl rfl (Res.tmp rfl) Z09 ⟨rfl, rfl⟩
 · refine Z03 (ll := [0, 1, 2, 3, 4, 5, 6, 7, 8, 9, 10, 11, 12, 13, 14, 15, 16, 17]) rfl ?_; refine Z0q rfl rfl rfl rfl Z2u mm0 rfl ?_; refine Z07 rfl rfl rfl rfl Z5g ?_; refine Z0e rfl rfl rfl rfl Z17 mm0 rfl ?_; refine Z0n Z78 rfl rfl rfl rfl (fun wc hwc => Z57 (n0 := n0) (v1 := n0.S) wc (h_n0f3.mono hwc) e4) ?_; rintro _ _ ⟨rfl, rfl⟩; refine Z05 rfl rfl rfl rfl ?_; refine Z0u (t := 7) (b' := false) rfl (Bool.eq_false_iff.2 g5) ?_; refine Z0c rfl rfl rfl rfl ?_; refine Z0c rfl rfl rfl rfl ?_; refine Z0c rfl rfl rfl rfl ?_; refine Z0c rfl rfl rfl rfl ?_; refine Z0z rfl rfl rfl rfl rfl ?_; refine Z05 rfl rfl rfl rfl ?_; refine Z0c rfl rfl rfl rfl ?_; refine Z0c rfl rfl rfl rfl ?_; refine Z0c rfl rfl rfl rfl ?_; refine Z0c rfl rfl rfl rfl ?_; refine Z0c rfl rfl rfl rfl ?_; refine Z0z rfl rfl rfl rfl rfl ?_; refine Z06 rfl rfl rfl rfl ?_; refine Z02 ?_; refine Z01 ?_; refine Z0k (Z00 (t := 2) rfl Z08) ?_; refine T.ret ?_; obtain rfl := ret1 H; exact Z10 rfl rfl rfl rfl (Res.tmp rfl) Z09 ⟨rfl, rfl⟩
theorem Zhm {n0 : Net} {a1 : Arc} {n0f3_b : Option Addr} {n0f3_n : Nat} {n0f3_c : Nat} (w : World) (h_n0f3 : RS w [] Z4g 3 n0f3_b n0f3_n n0f3_c n0.Arcs) {r0 : Bool} (H : Z7d n0 a1 = some r0) : Fnc Try.prog 130 #[.agg #[.int .i64 n0.N, .int .i64 n0.S, .int .i64 n0.T, .slice n0f3_b n0f3_n n0f3_c], .agg #[.int .i64 a1.fr, .int .i64 a1.to, .int .i64 a1.cap]] w [] (fun v N => v = .bool r0 ∧ N = []) := by
 unfold Z7d at H; refine Fnc.enter (vs := [.agg #[.int .i64 n0.N, .int .i64 n0.S, .int .i64 n0.T, .slice n0f3_b n0f3_n n0f3_c], .agg #[.int .i64 a1.fr, .int .i64 a1.to, .int .i64 a1.cap]]) Try.func130 rfl rfl (Inv.refl w) ?_; refine Z0b ?_; refine Z03 (ll := [0, 1, 2]) rfl ?_; refine Z1p rfl rfl rfl rfl ?_; intro b1; refine Z1p rfl rfl rfl rfl ?_; intro b3; refine Z06 rfl rfl rfl rfl ?_; refine Z02 ?_; refine Z01 ?_; refine Z0b ?_; obtain ⟨r5, e6, H⟩ := Z0l H; rcases Z0g H with ⟨g7, H⟩ | ⟨g7, H⟩
 · obtain ⟨r8, e9, H⟩ := Z0l H; refine Z03 (ll := [0, 1, 2, 3, 4, 5, 6, 7, 8, 9, 10]) rfl ?_; refine Z0q rfl rfl rfl rfl Z2u mm1 rfl ?_; refine Z07 rfl rfl rfl rfl Z64 ?_; refine Z0e rfl rfl rfl rfl Z17 mm0 rfl ?_; refine Z0n Z78 rfl rfl rfl rfl (fun wc hwc => Z57 (n0 := n0) (v1 := a1.fr) wc (h_n0f3.mono hwc) e6) ?_; rintro _ _ ⟨rfl, rfl⟩; refine Z05 rfl rfl rfl rfl ?_; refine Z0u (t := 9) (b' := true) rfl g7 ?_; refine Z0q rfl rfl rfl rfl Z2u mm1 rfl ?_; refine Z07 rfl rfl rfl rfl Z6z ?_; refine Z0e rfl rfl rfl rfl Z17 mm0 rfl ?_; refine Z0n Z78 rfl rfl rfl rfl (fun wc hwc => Z57 (n0 := n0) (v1 := a1.to) wc (h_n0f3.mono hwc) e9) ?_; rintro _ _ ⟨rfl, rfl⟩; refine Z0w rfl rfl rfl rfl rfl ?_; refine Z06 rfl rfl rfl rfl ?_; refine Z02 ?_; refine Z01 ?_; refine Z0k (Z00 (t := 4) rfl Z08) ?_; refine T.ret ?_; obtain rfl := ret1 H; exact Z10 rfl rfl rfl rfl (Res.tmp rfl) Z09 ⟨rfl, rfl⟩
 · refine Z03 (ll := [0, 1, 2, 3, 4, 5, 6, 7, 8, 9, 10]) rfl ?_; refine Z0q rfl rfl rfl rfl Z2u mm1 rfl ?_; refine Z07 rfl rfl rfl rfl Z64 ?_; refine Z0e rfl rfl rfl rfl Z17 mm0 rfl ?_; refine Z0n Z78 rfl rfl rfl rfl (fun wc hwc => Z57 (n0 := n0) (v1 := a1.fr) wc (h_n0f3.mono hwc) e6) ?_; rintro _ _ ⟨rfl, rfl⟩; refine Z05 rfl rfl rfl rfl ?_; refine Z0u (t := 9) (b' := false) rfl (Bool.eq_false_iff.2 g7) ?_; refine Z0c rfl rfl rfl rfl ?_; refine Z0c rfl rfl rfl rfl ?_; refine Z0c rfl rfl rfl rfl ?_; refine Z0c rfl rfl rfl rfl ?_; refine Z0z rfl rfl rfl rfl rfl ?_; refine Z06 rfl rfl rfl rfl ?_; refine Z02 ?_; refine Z01 ?_; refine Z0k (Z00 (t := 4) rfl Z08) ?_; refine T.ret ?_; obtain rfl := ret1 H; exact Z10 rfl rfl rfl rfl (Res.tmp rfl) Z09 ⟨rfl, rfl⟩
theorem Zcl {a0 : Arc} {c2 : Net} {c1_k : Nat} {c2_k : Nat} {c2f3_b : Option Addr} {c2f3_n : Nat} {c2f3_c : Nat} (w : World) (h_c1_k : HB w [] c1_k [.func (.func 130) #[] #[]]) (h_c2f3 : RS w [] Z4g 3 c2f3_b c2f3_n c2f3_c c2.Arcs) (h_c2_k : HB w [] c2_k [.int .i64 c2.N, .int .i64 c2.S, .int .i64 c2.T, .slice c2f3_b c2f3_n c2f3_c]) {r0 : Bool} (H : Z50 a0 c2 = some r0) : Fnc Try.prog 140 #[.agg #[.int .i64 a0.fr, .int .i64 a0.to, .int .i64 a0.cap], .pointer (some ⟨c1_k, 0, none⟩), .pointer (some ⟨c2_k, 0, none⟩)] w [] (fun v N => v = .bool r0 ∧ N = []) := by
 unfold Z50 at H; refine Fnc.enter (vs := [.agg #[.int .i64 a0.fr, .int .i64 a0.to, .int .i64 a0.cap], .pointer (some ⟨c1_k, 0, none⟩), .pointer (some ⟨c2_k, 0, none⟩)]) Try.func140 rfl rfl (Inv.refl w) ?_; refine Z0b ?_; refine Z03 (ll := [0, 1]) rfl ?_; refine Z1p rfl rfl rfl rfl ?_; intro b1; refine Z06 rfl rfl rfl rfl ?_; refine Z02 ?_; refine Z01 ?_; refine Z0b ?_; obtain ⟨r3, e4, H⟩ := Z0l H; refine Z03 (ll := [0, 1, 2, 3, 4, 5]) rfl ?_; refine Zb6 h_c1_k rfl rfl rfl rfl rfl Zh7 ?_; refine Zls h_c2_k rfl rfl rfl rfl rfl Z2u ?_; refine Z0q rfl rfl rfl rfl Z8i mm0 rfl ?_; refine Z3a Zna rfl rfl rfl rfl rfl (fun wc hwc => Zhm (n0 := c2) (a1 := a0) wc (h_c2f3.mono hwc) e4) ?_; rintro _ _ ⟨rfl, rfl⟩; refine TO.not rfl rfl rfl rfl ?_; refine Z06 rfl rfl rfl rfl ?_; refine Z02 ?_; refine Z01 ?_; refine Z0k (Z00 (t := 4) rfl Z08) ?_; refine T.ret ?_; obtain rfl := ret1 H; exact Z10 rfl rfl rfl rfl (Res.tmp rfl) Z09 ⟨rfl, rfl⟩
theorem Z6k {s0 : List Arc} {f1_1 : Net} {s0_b : Option Addr} {s0_n : Nat} {s0_c : Nat} {f1_0_k : Nat} {f1_1_k : Nat} {f1_1f3_b : Option Addr} {f1_1f3_n : Nat} {f1_1f3_c : Nat} (w : World) (a2 : RS w [] Z4g 3 s0_b s0_n s0_c s0) (h_f1_0_k : HB w [] f1_0_k [.func (.func 130) #[] #[]]) (h_f1_1f3 : RS w [] Z4g 3 f1_1f3_b f1_1f3_n f1_1f3_c f1_1.Arcs) (h_f1_1_k : HB w [] f1_1_k [.int .i64 f1_1.N, .int .i64 f1_1.S, .int .i64 f1_1.T, .slice f1_1f3_b f1_1f3_n f1_1f3_c]) {r0 : Int} (H : Z1w s0 f1_1 = some r0) : Fnc Try.prog 145 #[.slice s0_b s0_n s0_c, .func (.func 140) #[] #[.pointer (some ⟨f1_0_k, 0, none⟩), .pointer (some ⟨f1_1_k, 0, none⟩)]] w [] (fun v N => v = .int .i64 r0 ∧ N = []) := by
 unfold Z1w at H; refine Fnc.enter (vs := [.slice s0_b s0_n s0_c, .func (.func 140) #[] #[.pointer (some ⟨f1_0_k, 0, none⟩), .pointer (some ⟨f1_1_k, 0, none⟩)]]) Try.func145 rfl rfl (Inv.refl w) ?_; refine Z0b ?_; refine Z03 (ll := [0]) rfl ?_; refine Z06 rfl rfl rfl rfl ?_; refine Z02 ?_; refine Z01 ?_; refine Z0b ?_; refine Z0b ?_; refine Z03 (ll := [0, 1, 2]) rfl ?_; refine Z05 rfl rfl rfl rfl ?_; refine Z26 (xs := s0) a2.len rfl rfl rfl rfl rfl Z3w ?_; refine Z05 rfl rfl rfl rfl ?_; refine Z02 ?_; refine Z01 ?_; refine Z1l (fun (u8 : Unit) => Z2g = some r0) (fun (u8 : Unit) => []) (fun (u8 : Unit) => []) ?_ ?_
 ·
  refine T.block ?_; obtain ⟨a6, a7, a5⟩ := Z0l H; refine Z9y (fun (a3 : Nat) (x1 : Int) => Z28 (fun s => Z1a s0 f1_1 s) a3 x1 = some a6) (fun (a3 : Nat) (x1 : Int) => [(0, .slice s0_b s0_n s0_c), (1, .func (.func 140) #[] #[.pointer (some ⟨f1_0_k, 0, none⟩), .pointer (some ⟨f1_1_k, 0, none⟩)]), (7, .int .i64 (s0.length : Int)), (8, .int .i64 x1)]) (fun (a3 : Nat) (x1 : Int) => []) (fun (a3 : Nat) (x1 : Int) => a3) Z4d 0 a7 (Z00 rfl (Z00 rfl (Z00 rfl (Z00 rfl Z08)))) Z09 ?_; rintro a3 x1 H; obtain ⟨a8, a9, rfl, H, a4⟩ := Z1c H; have H : Z1a s0 f1_1 x1 = some a9 := H; unfold Z1a at H; refine Z0b ?_; refine Z03 (ll := [0]) rfl ?_; refine Z0r rfl rfl rfl rfl rfl rfl ?_; refine Z02 ?_; refine Z01 ?_; refine Z0b ?_; rcases Z0g H with ⟨g2, H⟩ | ⟨g2, H⟩
  ·
   refine Z14 rfl g2 ?_; refine T.skip ?_; refine Z01 ?_; refine Z0b ?_; refine T.block ?_; refine Z0b ?_; refine Z03 (ll := [0, 1]) rfl ?_; refine Z05 rfl rfl rfl rfl ?_; refine Z06 rfl rfl rfl rfl ?_; refine Z02 ?_; refine Z01 ?_; refine Z0b ?_; obtain ⟨g3, H⟩ := Z0d H; obtain ⟨r4, e5, H⟩ := Z0l H; refine Z03 (ll := [0, 1, 2, 3, 4, 5]) rfl ?_; refine Z05 rfl rfl rfl rfl ?_; refine Z05 rfl rfl rfl rfl ?_; refine Z05 rfl rfl rfl rfl ?_; refine Z2k a2 g3 rfl rfl rfl rfl rfl Z3w Z55 ?_; refine Z8o (cs := [.int .i64 ((s0.getD x1.toNat default).fr), .int .i64 ((s0.getD x1.toNat default).to), .int .i64 ((s0.getD x1.toNat default).cap)]) default a2 g3 rfl rfl rfl rfl rfl Z8i ?_; refine Z3a Zh9 rfl rfl rfl rfl rfl (fun wc hwc => Zcl (a0 := (s0.getD x1.toNat default)) (c2 := f1_1) wc (h_f1_0_k.mono hwc) (h_f1_1f3.mono hwc) (h_f1_1_k.mono hwc) e5) ?_; rintro _ _ ⟨rfl, rfl⟩; refine Z02 ?_; refine Z01 ?_; rcases Z0g H with ⟨g6, H⟩ | ⟨g6, H⟩
   · refine Z1d rfl g6 ?_; refine Z0b ?_; refine Z03 (ll := [0, 1]) rfl ?_; refine Z05 rfl rfl rfl rfl ?_; refine Z06 rfl rfl rfl rfl ?_; refine Z02 ?_; refine Z01 ?_; refine Z0k (Z00 (t := 4) rfl Z08) ?_; refine T.ret ?_; refine Z0o ?_; refine Z0f ?_; have H := Z0v H a4 ▸ a5; refine Z0f ?_; refine Z0o ?_; refine Z0f ?_; obtain rfl := ret1 H; exact Z10 rfl rfl rfl rfl (Res.tmp rfl) Z09 ⟨rfl, rfl⟩
   · refine Z1r rfl (Bool.eq_false_iff.2 g6) ?_; refine T.skip ?_; refine Z0h ?_; refine Z01 ?_; refine Z0k (Z00 (t := 0) rfl (Z00 (t := 1) rfl (Z00 (t := 7) rfl (Z00 (t := 8) rfl Z08)))) ?_; obtain ⟨g7, H⟩ := Z0d H; refine Z03 (ll := [0, 1]) rfl ?_; refine Z18 g7 rfl rfl rfl rfl rfl ?_; refine Z05 rfl rfl rfl rfl ?_; refine Z02 ?_; have H := Z16 H a4; exact Z62 a8 (x1 + 1) H (Nat.lt_succ_self _) (Z00 rfl (Z00 rfl (Z00 rfl (Z00 rfl Z08)))) Z09
  · refine Z15 rfl g2 ?_; refine T.exit ?_; refine Z0j ?_; have H := Z0v H a4 ▸ a5; refine Z0j ?_; refine Z0x ?_; exact Z24 () H Z08 Z09
 · rintro u8 H; unfold Z2g at H; refine Z0b ?_; refine Z03 (ll := [0]) rfl ?_; refine Z06 rfl rfl rfl rfl ?_; refine Z02 ?_; refine Z01 ?_; refine T.ret ?_; obtain rfl := ret1 H; exact Z10 rfl rfl rfl rfl (Res.tmp rfl) Z09 ⟨rfl, rfl⟩
theorem Z5u {s0 : List Arc} {f1_1 : Net} {s0_b : Option Addr} {s0_n : Nat} {s0_c : Nat} {f1_0_k : Nat} {f1_1_k : Nat} {f1_1f3_b : Option Addr} {f1_1f3_n : Nat} {f1_1f3_c : Nat} (w : World) (a2 : RS w [] Z4g 3 s0_b s0_n s0_c s0) (h_f1_0_k : HB w [] f1_0_k [.func (.func 130) #[] #[]]) (h_f1_1f3 : RS w [] Z4g 3 f1_1f3_b f1_1f3_n f1_1f3_c f1_1.Arcs) (h_f1_1_k : HB w [] f1_1_k [.int .i64 f1_1.N, .int .i64 f1_1.S, .int .i64 f1_1.T, .slice f1_1f3_b f1_1f3_n f1_1f3_c]) {r0 : Bool} (H : Z1o s0 f1_1 = some r0) : Fnc Try.prog 139 #[.slice s0_b s0_n s0_c, .func (.func 140) #[] #[.pointer (some ⟨f1_0_k, 0, none⟩), .pointer (some ⟨f1_1_k, 0, none⟩)]] w [] (fun v N => v = .bool r0 ∧ N = []) := by
 unfold Z1o at H; refine Fnc.enter (vs := [.slice s0_b s0_n s0_c, .func (.func 140) #[] #[.pointer (some ⟨f1_0_k, 0, none⟩), .pointer (some ⟨f1_1_k, 0, none⟩)]]) Try.func139 rfl rfl (Inv.refl w) ?_; refine Z0b ?_; refine Z03 (ll := [0]) rfl ?_; refine Z06 rfl rfl rfl rfl ?_; refine Z02 ?_; refine Z01 ?_; refine Z0b ?_; obtain ⟨r1, e2, H⟩ := Z0l H; refine Z03 (ll := [0, 1, 2, 3, 4]) rfl ?_; refine Z05 rfl rfl rfl rfl ?_; refine Z05 rfl rfl rfl rfl ?_; refine Z0n Zh8 rfl rfl rfl rfl (fun wc hwc => Z6k (s0 := s0) (f1_1 := f1_1) wc (a2.mono hwc) (h_f1_0_k.mono hwc) (h_f1_1f3.mono hwc) (h_f1_1_k.mono hwc) e2) ?_; rintro _ _ ⟨rfl, rfl⟩; refine Z0r rfl rfl rfl rfl rfl rfl ?_; refine Z06 rfl rfl rfl rfl ?_; refine Z02 ?_; refine Z01 ?_; refine T.ret ?_; obtain rfl := ret1 H; exact Z10 rfl rfl rfl rfl (Res.tmp rfl) Z09 ⟨rfl, rfl⟩
theorem Zdh {n0 : Net} {n0f3_b : Option Addr} {n0f3_n : Nat} {n0f3_c : Nat} {c1_k : Nat} (w : World) (h_n0f3 : RS w [] Z4g 3 n0f3_b n0f3_n n0f3_c n0.Arcs) (h_c1_k : HB w [] c1_k [.func (.func 130) #[] #[]]) {r0 : Bool} (H : Z4r n0 = some r0) : Fnc Try.prog 138 #[.agg #[.int .i64 n0.N, .int .i64 n0.S, .int .i64 n0.T, .slice n0f3_b n0f3_n n0f3_c], .pointer (some ⟨c1_k, 0, none⟩)] w [] (fun v N => v = .bool r0 ∧ N = []) := by
 unfold Z4r at H; refine Fnc.enter (vs := [.agg #[.int .i64 n0.N, .int .i64 n0.S, .int .i64 n0.T, .slice n0f3_b n0f3_n n0f3_c], .pointer (some ⟨c1_k, 0, none⟩)]) Try.func138 rfl rfl (Inv.refl w) ?_; refine Z0b ?_; refine Z03 (ll := [0, 1]) rfl ?_; refine Z1p rfl rfl rfl rfl ?_; intro b1; refine Z06 rfl rfl rfl rfl ?_; refine Z02 ?_; refine Z01 ?_; refine Z0b ?_; obtain ⟨r3, e4, H⟩ := Z0l H; refine Z03 (ll := [0, 1, 2, 3, 4, 5]) rfl ?_; refine Z07 rfl rfl rfl rfl Z4w ?_; refine Z0e rfl rfl rfl rfl Z7m mm0 rfl ?_; refine TO.makeFunc rfl rfl rfl rfl rfl ?_; refine Z0n Zha rfl rfl rfl rfl (fun wc hwc => Z5u (s0 := n0.Arcs) (f1_1 := n0) wc (h_n0f3.mono hwc) (h_c1_k.mono hwc) (h_n0f3.mono hwc) (hwc.hb (cs := [.int .i64 n0.N, .int .i64 n0.S, .int .i64 n0.T, .slice n0f3_b n0f3_n n0f3_c]) mm0) e4) ?_; rintro _ _ ⟨rfl, rfl⟩; refine TO.not rfl rfl rfl rfl ?_; refine Z06 rfl rfl rfl rfl ?_; refine Z02 ?_; refine Z01 ?_; refine Z0k (Z00 (t := 3) rfl Z08) ?_; refine T.ret ?_; obtain rfl := ret1 H; exact Z10 rfl rfl rfl rfl (Res.tmp rfl) Z09 ⟨rfl, rfl⟩
theorem Zhl {n0 : Net} {a1 : Arc} {n0f3_b : Option Addr} {n0f3_n : Nat} {n0f3_c : Nat} (w : World) (h_n0f3 : RS w [] Z4g 3 n0f3_b n0f3_n n0f3_c n0.Arcs) {r0 : Bool} (H : Z8q n0 a1 = some r0) : Fnc Try.prog 131 #[.agg #[.int .i64 n0.N, .int .i64 n0.S, .int .i64 n0.T, .slice n0f3_b n0f3_n n0f3_c], .agg #[.int .i64 a1.fr, .int .i64 a1.to, .int .i64 a1.cap]] w [] (fun v N => v = .bool r0 ∧ N = []) := by
 unfold Z8q at H; refine Fnc.enter (vs := [.agg #[.int .i64 n0.N, .int .i64 n0.S, .int .i64 n0.T, .slice n0f3_b n0f3_n n0f3_c], .agg #[.int .i64 a1.fr, .int .i64 a1.to, .int .i64 a1.cap]]) Try.func131 rfl rfl (Inv.refl w) ?_; refine Z0b ?_; refine Z03 (ll := [0, 1, 2]) rfl ?_; refine Z1p rfl rfl rfl rfl ?_; intro b1; refine Z1p rfl rfl rfl rfl ?_; intro b3; refine Z06 rfl rfl rfl rfl ?_; refine Z02 ?_; refine Z01 ?_; refine Z0b ?_; refine Z03 (ll := [0, 1, 2, 3]) rfl ?_; refine Z07 rfl rfl rfl rfl Z6y ?_; refine Z0e rfl rfl rfl rfl Zb2 mm0 rfl ?_; refine Z0r rfl rfl rfl rfl rfl rfl ?_; refine Z06 rfl rfl rfl rfl ?_; refine Z02 ?_; refine Z01 ?_; refine T.ret ?_; obtain rfl := ret1 H; exact Z10 rfl rfl rfl rfl (Res.tmp rfl) Z09 ⟨rfl, rfl⟩
theorem Zck {a0 : Arc} {c2 : Net} {c1_k : Nat} {c2_k : Nat} {c2f3_b : Option Addr} {c2f3_n : Nat} {c2f3_c : Nat} (w : World) (h_c1_k : HB w [] c1_k [.func (.func 131) #[] #[]]) (h_c2f3 : RS w [] Z4g 3 c2f3_b c2f3_n c2f3_c c2.Arcs) (h_c2_k : HB w [] c2_k [.int .i64 c2.N, .int .i64 c2.S, .int .i64 c2.T, .slice c2f3_b c2f3_n c2f3_c]) {r0 : Bool} (H : Z4z a0 c2 = some r0) : Fnc Try.prog 140 #[.agg #[.int .i64 a0.fr, .int .i64 a0.to, .int .i64 a0.cap], .pointer (some ⟨c1_k, 0, none⟩), .pointer (some ⟨c2_k, 0, none⟩)] w [] (fun v N => v = .bool r0 ∧ N = []) := by
 unfold Z4z at H; refine Fnc.enter (vs := [.agg #[.int .i64 a0.fr, .int .i64 a0.to, .int .i64 a0.cap], .pointer (some ⟨c1_k, 0, none⟩), .pointer (some ⟨c2_k, 0, none⟩)]) Try.func140 rfl rfl (Inv.refl w) ?_; refine Z0b ?_; refine Z03 (ll := [0, 1]) rfl ?_; refine Z1p rfl rfl rfl rfl ?_; intro b1; refine Z06 rfl rfl rfl rfl ?_; refine Z02 ?_; refine Z01 ?_; refine Z0b ?_; obtain ⟨r3, e4, H⟩ := Z0l H; refine Z03 (ll := [0, 1, 2, 3, 4, 5]) rfl ?_; refine Zb6 h_c1_k rfl rfl rfl rfl rfl Zh7 ?_; refine Zls h_c2_k rfl rfl rfl rfl rfl Z2u ?_; refine Z0q rfl rfl rfl rfl Z8i mm0 rfl ?_; refine Z3a Zn9 rfl rfl rfl rfl rfl (fun wc hwc => Zhl (n0 := c2) (a1 := a0) wc (h_c2f3.mono hwc) e4) ?_; rintro _ _ ⟨rfl, rfl⟩; refine TO.not rfl rfl rfl rfl ?_; refine Z06 rfl rfl rfl rfl ?_; refine Z02 ?_; refine Z01 ?_; refine Z0k (Z00 (t := 4) rfl Z08) ?_; refine T.ret ?_; obtain rfl := ret1 H; exact Z10 rfl rfl rfl rfl (Res.tmp rfl) Z09 ⟨rfl, rfl⟩
theorem Z6j {s0 : List Arc} {f1_1 : Net} {s0_b : Option Addr} {s0_n : Nat} {s0_c : Nat} {f1_0_k : Nat} {f1_1_k : Nat} {f1_1f3_b : Option Addr} {f1_1f3_n : Nat} {f1_1f3_c : Nat} (w : World) (a2 : RS w [] Z4g 3 s0_b s0_n s0_c s0) (h_f1_0_k : HB w [] f1_0_k [.func (.func 131) #[] #[]]) (h_f1_1f3 : RS w [] Z4g 3 f1_1f3_b f1_1f3_n f1_1f3_c f1_1.Arcs) (h_f1_1_k : HB w [] f1_1_k [.int .i64 f1_1.N, .int .i64 f1_1.S, .int .i64 f1_1.T, .slice f1_1f3_b f1_1f3_n f1_1f3_c]) {r0 : Int} (H : Z1v s0 f1_1 = some r0) : Fnc Try.prog 145 #[.slice s0_b s0_n s0_c, .func (.func 140) #[] #[.pointer (some ⟨f1_0_k, 0, none⟩), .pointer (some ⟨f1_1_k, 0, none⟩)]] w [] (fun v N => v = .int .i64 r0 ∧ N = []) := by
 unfold Z1v at H; refine Fnc.enter (vs := [.slice s0_b s0_n s0_c, .func (.func 140) #[] #[.pointer (some ⟨f1_0_k, 0, none⟩), .pointer (some ⟨f1_1_k, 0, none⟩)]]) Try.func145 rfl rfl (Inv.refl w) ?_; refine Z0b ?_; refine Z03 (ll := [0]) rfl ?_; refine Z06 rfl rfl rfl rfl ?_; refine Z02 ?_; refine Z01 ?_; refine Z0b ?_; refine Z0b ?_; refine Z03 (ll := [0, 1, 2]) rfl ?_; refine Z05 rfl rfl rfl rfl ?_; refine Z26 (xs := s0) a2.len rfl rfl rfl rfl rfl Z3w ?_; refine Z05 rfl rfl rfl rfl ?_; refine Z02 ?_; refine Z01 ?_; refine Z1l (fun (u8 : Unit) => Z2f = some r0) (fun (u8 : Unit) => []) (fun (u8 : Unit) => []) ?_ ?_
 ·
  refine T.block ?_; obtain ⟨a6, a7, a5⟩ := Z0l H; refine Z9y (fun (a3 : Nat) (x1 : Int) => Z28 (fun s => Z19 s0 f1_1 s) a3 x1 = some a6) (fun (a3 : Nat) (x1 : Int) => [(0, .slice s0_b s0_n s0_c), (1, .func (.func 140) #[] #[.pointer (some ⟨f1_0_k, 0, none⟩), .pointer (some ⟨f1_1_k, 0, none⟩)]), (7, .int .i64 (s0.length : Int)), (8, .int .i64 x1)]) (fun (a3 : Nat) (x1 : Int) => []) (fun (a3 : Nat) (x1 : Int) => a3) Z4d 0 a7 (Z00 rfl (Z00 rfl (Z00 rfl (Z00 rfl Z08)))) Z09 ?_; rintro a3 x1 H; obtain ⟨a8, a9, rfl, H, a4⟩ := Z1c H; have H : Z19 s0 f1_1 x1 = some a9 := H; unfold Z19 at H; refine Z0b ?_; refine Z03 (ll := [0]) rfl ?_; refine Z0r rfl rfl rfl rfl rfl rfl ?_; refine Z02 ?_; refine Z01 ?_; refine Z0b ?_; rcases Z0g H with ⟨g2, H⟩ | ⟨g2, H⟩
  ·
   refine Z14 rfl g2 ?_; refine T.skip ?_; refine Z01 ?_; refine Z0b ?_; refine T.block ?_; refine Z0b ?_; refine Z03 (ll := [0, 1]) rfl ?_; refine Z05 rfl rfl rfl rfl ?_; refine Z06 rfl rfl rfl rfl ?_; refine Z02 ?_; refine Z01 ?_; refine Z0b ?_; obtain ⟨g3, H⟩ := Z0d H; obtain ⟨r4, e5, H⟩ := Z0l H; refine Z03 (ll := [0, 1, 2, 3, 4, 5]) rfl ?_; refine Z05 rfl rfl rfl rfl ?_; refine Z05 rfl rfl rfl rfl ?_; refine Z05 rfl rfl rfl rfl ?_; refine Z2k a2 g3 rfl rfl rfl rfl rfl Z3w Z55 ?_; refine Z8o (cs := [.int .i64 ((s0.getD x1.toNat default).fr), .int .i64 ((s0.getD x1.toNat default).to), .int .i64 ((s0.getD x1.toNat default).cap)]) default a2 g3 rfl rfl rfl rfl rfl Z8i ?_; refine Z3a Zh9 rfl rfl rfl rfl rfl (fun wc hwc => Zck (a0 := (s0.getD x1.toNat default)) (c2 := f1_1) wc (h_f1_0_k.mono hwc) (h_f1_1f3.mono hwc) (h_f1_1_k.mono hwc) e5) ?_; rintro _ _ ⟨rfl, rfl⟩; refine Z02 ?_; refine Z01 ?_; rcases Z0g H with ⟨g6, H⟩ | ⟨g6, H⟩
   · refine Z1d rfl g6 ?_; refine Z0b ?_; refine Z03 (ll := [0, 1]) rfl ?_; refine Z05 rfl rfl rfl rfl ?_; refine Z06 rfl rfl rfl rfl ?_; refine Z02 ?_; refine Z01 ?_; refine Z0k (Z00 (t := 4) rfl Z08) ?_; refine T.ret ?_; refine Z0o ?_; refine Z0f ?_; have H := Z0v H a4 ▸ a5; refine Z0f ?_; refine Z0o ?_; refine Z0f ?_; obtain rfl := ret1 H; exact Z10 rfl rfl rfl rfl (Res.tmp rfl) Z09 ⟨rfl, rfl⟩
   · refine Z1r rfl (Bool.eq_false_iff.2 g6) ?_; refine T.skip ?_; refine Z0h ?_; refine Z01 ?_; refine Z0k (Z00 (t := 0) rfl (Z00 (t := 1) rfl (Z00 (t := 7) rfl (Z00 (t := 8) rfl Z08)))) ?_; obtain ⟨g7, H⟩ := Z0d H; refine Z03 (ll := [0, 1]) rfl ?_; refine Z18 g7 rfl rfl rfl rfl rfl ?_; refine Z05 rfl rfl rfl rfl ?_; refine Z02 ?_; have H := Z16 H a4; exact Z62 a8 (x1 + 1) H (Nat.lt_succ_self _) (Z00 rfl (Z00 rfl (Z00 rfl (Z00 rfl Z08)))) Z09
  · refine Z15 rfl g2 ?_; refine T.exit ?_; refine Z0j ?_; have H := Z0v H a4 ▸ a5; refine Z0j ?_; refine Z0x ?_; exact Z24 () H Z08 Z09
 · rintro u8 H; unfold Z2f at H; refine Z0b ?_; refine Z03 (ll := [0]) rfl ?_; refine Z06 rfl rfl rfl rfl ?_; refine Z02 ?_; refine Z01 ?_; refine T.ret ?_; obtain rfl := ret1 H; exact Z10 rfl rfl rfl rfl (Res.tmp rfl) Z09 ⟨rfl, rfl⟩
theorem Z5t {s0 : List Arc} {f1_1 : Net} {s0_b : Option Addr} {s0_n : Nat} {s0_c : Nat} {f1_0_k : Nat} {f1_1_k : Nat} {f1_1f3_b : Option Addr} {f1_1f3_n : Nat} {f1_1f3_c : Nat} (w : World) (a2 : RS w [] Z4g 3 s0_b s0_n s0_c s0) (h_f1_0_k : HB w [] f1_0_k [.func (.func 131) #[] #[]]) (h_f1_1f3 : RS w [] Z4g 3 f1_1f3_b f1_1f3_n f1_1f3_c f1_1.Arcs) (h_f1_1_k : HB w [] f1_1_k [.int .i64 f1_1.N, .int .i64 f1_1.S, .int .i64 f1_1.T, .slice f1_1f3_b f1_1f3_n f1_1f3_c]) {r0 : Bool} (H : Z1n s0 f1_1 = some r0) : Fnc Try.prog 139 #[.slice s0_b s0_n s0_c, .func (.func 140) #[] #[.pointer (some ⟨f1_0_k, 0, none⟩), .pointer (some ⟨f1_1_k, 0, none⟩)]] w [] (fun v N => v = .bool r0 ∧ N = []) := by
 unfold Z1n at H; refine Fnc.enter (vs := [.slice s0_b s0_n s0_c, .func (.func 140) #[] #[.pointer (some ⟨f1_0_k, 0, none⟩), .pointer (some ⟨f1_1_k, 0, none⟩)]]) Try.func139 rfl rfl (Inv.refl w) ?_; refine Z0b ?_; refine Z03 (ll := [0]) rfl ?_; refine Z06 rfl rfl rfl rfl ?_; refine Z02 ?_; refine Z01 ?_; refine Z0b ?_; obtain ⟨r1, e2, H⟩ := Z0l H; refine Z03 (ll := [0, 1, 2, 3, 4]) rfl ?_; refine Z05 rfl rfl rfl rfl ?_; refine Z05 rfl rfl rfl rfl ?_; refine Z0n Zh8 rfl rfl rfl rfl (fun wc hwc => Z6j (s0 := s0) (f1_1 := f1_1) wc (a2.mono hwc) (h_f1_0_k.mono hwc) (h_f1_1f3.mono hwc) (h_f1_1_k.mono hwc) e2) ?_; rintro _ _ ⟨rfl, rfl⟩; refine Z0r rfl rfl rfl rfl rfl rfl ?_; refine Z06 rfl rfl rfl rfl ?_; refine Z02 ?_; refine Z01 ?_; refine T.ret ?_; obtain rfl := ret1 H; exact Z10 rfl rfl rfl rfl (Res.tmp rfl) Z09 ⟨rfl, rfl⟩
theorem Zdg {n0 : Net} {n0f3_b : Option Addr} {n0f3_n : Nat} {n0f3_c : Nat} {c1_k : Nat} (w : World) (h_n0f3 : RS w [] Z4g 3 n0f3_b n0f3_n n0f3_c n0.Arcs) (h_c1_k : HB w [] c1_k [.func (.func 131) #[] #[]]) {r0 : Bool} (H : Z4q n0 = some r0) : Fnc Try.prog 138 #[.agg #[.int .i64 n0.N, .int .i64 n0.S, .int .i64 n0.T, .slice n0f3_b n0f3_n n0f3_c], .pointer (some ⟨c1_k, 0, none⟩)] w [] (fun v N => v = .bool r0 ∧ N = []) := by
 unfold Z4q at H; refine Fnc.enter (vs := [.agg #[.int .i64 n0.N, .int .i64 n0.S, .int .i64 n0.T, .slice n0f3_b n0f3_n n0f3_c], .pointer (some ⟨c1_k, 0, none⟩)]) Try.func138 rfl rfl (Inv.refl w) ?_; refine Z0b ?_; refine Z03 (ll := [0, 1]) rfl ?_; refine Z1p rfl rfl rfl rfl ?_; intro b1; refine Z06 rfl rfl rfl rfl ?_; refine Z02 ?_; refine Z01 ?_; refine Z0b ?_; obtain ⟨r3, e4, H⟩ := Z0l H; refine Z03 (ll := [0, 1, 2, 3, 4, 5]) rfl ?_; refine Z07 rfl rfl rfl rfl Z4w ?_; refine Z0e rfl rfl rfl rfl Z7m mm0 rfl ?_; refine TO.makeFunc rfl rfl rfl rfl rfl ?_; refine Z0n Zha rfl rfl rfl rfl (fun wc hwc => Z5t (s0 := n0.Arcs) (f1_1 := n0) wc (h_n0f3.mono hwc) (h_c1_k.mono hwc) (h_n0f3.mono hwc) (hwc.hb (cs := [.int .i64 n0.N, .int .i64 n0.S, .int .i64 n0.T, .slice n0f3_b n0f3_n n0f3_c]) mm0) e4) ?_; rintro _ _ ⟨rfl, rfl⟩; refine TO.not rfl rfl rfl rfl ?_; refine Z06 rfl rfl rfl rfl ?_; refine Z02 ?_; refine Z01 ?_; refine Z0k (Z00 (t := 3) rfl Z08) ?_; refine T.ret ?_; obtain rfl := ret1 H; exact Z10 rfl rfl rfl rfl (Res.tmp rfl) Z09 ⟨rfl, rfl⟩
theorem Zoa {n0 : Net} {n0f3_b : Option Addr} {n0f3_n : Nat} {n0f3_c : Nat} (w : World) (h_n0f3 : RS w [] Z4g 3 n0f3_b n0f3_n n0f3_c n0.Arcs) {r0 : Int} {r1 : Bool} (H : Zbj n0 = some (r0, r1)) : Fnc Try.prog 133 #[.agg #[.int .i64 n0.N, .int .i64 n0.S, .int .i64 n0.T, .slice n0f3_b n0f3_n n0f3_c]] w [] (fun v N => v = .tuple #[.int .i64 r0, .bool r1] ∧ N = []) := by
 unfold Zbj at H; refine Fnc.enter (vs := [.agg #[.int .i64 n0.N, .int .i64 n0.S, .int .i64 n0.T, .slice n0f3_b n0f3_n n0f3_c]]) Try.func133 rfl rfl (Inv.refl w) ?_; refine Z0b ?_; refine Z03 (ll := [0, 1, 2]) rfl ?_; refine Z1p rfl rfl rfl rfl ?_; intro b1; refine Z06 rfl rfl rfl rfl ?_; refine Z06 rfl rfl rfl rfl ?_; refine Z02 ?_; refine Z01 ?_; refine Z0b ?_; refine Z03 (ll := [0]) rfl ?_; refine Z06 rfl rfl rfl rfl ?_; refine Z02 ?_; refine Z01 ?_; refine Z0b ?_; refine Z0b ?_; refine Z03 (ll := [0, 1, 2, 3]) rfl ?_; refine Z07 rfl rfl rfl rfl Z4w ?_; refine Z0e rfl rfl rfl rfl Z7m mm0 rfl ?_; refine Z26 (xs := n0.Arcs) h_n0f3.len rfl rfl rfl rfl rfl Z3w ?_; refine Z05 rfl rfl rfl rfl ?_; refine Z02 ?_; refine Z01 ?_; refine Z1l (fun (a3 : Int) => Z9r a3 = some (r0, r1)) (fun (a3 : Int) => [(4, .int .i64 a3)]) (fun (a3 : Int) => []) ?_ ?_
 ·
  refine T.block ?_; obtain ⟨b0, b5, a8⟩ := Z0l H; refine Z7r (fun (a4 : Nat) (a2 : Int) (x4 : Int) => Z28 (fun s => Z89 n0 s.1 s.2) a4 (a2, x4) = some b0) (fun (a4 : Nat) (a2 : Int) (x4 : Int) => [(4, .int .i64 a2), (8, .slice n0f3_b n0f3_n n0f3_c), (9, .int .i64 (n0.Arcs.length : Int)), (10, .int .i64 x4)]) (fun (a4 : Nat) (a2 : Int) (x4 : Int) => []) (fun (a4 : Nat) (a2 : Int) (x4 : Int) => a4) Z4d 4611686018427387904 0 b5 (Z00 rfl (Z00 rfl (Z00 rfl (Z00 rfl Z08)))) Z09 ?_; rintro a4 a2 x4 H; obtain ⟨b6, a9, rfl, H, a6⟩ := Z1c H; have H : Z89 n0 a2 x4 = some a9 := H; unfold Z89 at H; refine Z0b ?_; refine Z03 (ll := [0]) rfl ?_; refine Z0r rfl rfl rfl rfl rfl rfl ?_; refine Z02 ?_; refine Z01 ?_; refine Z0b ?_; rcases Z0g H with ⟨g5, H⟩ | ⟨g5, H⟩
  ·
   refine Z14 rfl g5 ?_; refine T.skip ?_; refine Z01 ?_; refine Z0b ?_; refine T.block ?_; refine Z0b ?_; obtain ⟨g6, H⟩ := Z0d H; refine Z03 (ll := [0, 1, 2, 3]) rfl ?_; refine Z2k h_n0f3 g6 rfl rfl rfl rfl rfl Z3w Z55 ?_; refine Z8o (cs := [.int .i64 ((n0.Arcs.getD x4.toNat default).fr), .int .i64 ((n0.Arcs.getD x4.toNat default).to), .int .i64 ((n0.Arcs.getD x4.toNat default).cap)]) default h_n0f3 g6 rfl rfl rfl rfl rfl Z8i ?_; refine Z1i rfl rfl rfl Zag ?_; intro b7; refine Z1b rfl rfl rfl rfl tk0 Z55 rfl rfl rfl ?_; refine Z02 ?_; refine Z01 ?_; refine Z0b ?_; refine Z0b ?_; refine Z1l (fun (a5 : Bool) => Z8a n0 a2 x4 a5 = some a9) (fun (a5 : Bool) => [(4, .int .i64 a2), (6, .pointer (some ⟨b7, 0, none⟩)), (8, .slice n0f3_b n0f3_n n0f3_c), (9, .int .i64 (n0.Arcs.length : Int)), (10, .int .i64 x4), (22, .bool a5)]) (fun (a5 : Bool) => [(some b7, .cells #[.int .i64 ((n0.Arcs.getD x4.toNat default).fr), .int .i64 ((n0.Arcs.getD x4.toNat default).to), .int .i64 ((n0.Arcs.getD x4.toNat default).cap)] 35 (0, 0))]) ?_ ?_
   ·
    rcases Z0g H with ⟨g9, H⟩ | ⟨g9, H⟩
    · refine Z03 (ll := [0, 1, 2, 3, 4, 5, 6, 7, 8]) rfl ?_; refine Z07 rfl rfl rfl rfl Z6y ?_; refine Z0e rfl rfl rfl rfl Zb2 mm0 rfl ?_; refine Z0r rfl rfl rfl rfl rfl rfl ?_; refine Z05 rfl rfl rfl rfl ?_; refine Z0u (t := 17) (b' := true) rfl (decide_eq_true g9) ?_; refine Z0c rfl rfl rfl rfl ?_; refine Z0c rfl rfl rfl rfl ?_; refine Z0c rfl rfl rfl rfl ?_; refine Z0c rfl rfl rfl rfl ?_; refine Z0w rfl rfl rfl rfl rfl ?_; refine Z02 ?_; exact Z24 true H (Z00 rfl (Z00 rfl (Z00 rfl (Z00 rfl (Z00 rfl (Z00 rfl Z08)))))) (Z04 tk0 Z09)
    · refine Z03 (ll := [0, 1, 2, 3, 4, 5, 6, 7, 8]) rfl ?_; refine Z07 rfl rfl rfl rfl Z6y ?_; refine Z0e rfl rfl rfl rfl Zb2 mm0 rfl ?_; refine Z0r rfl rfl rfl rfl rfl rfl ?_; refine Z05 rfl rfl rfl rfl ?_; refine Z0u (t := 17) (b' := false) rfl (decide_eq_false g9) ?_; refine Z07 rfl rfl rfl rfl Z6y ?_; refine Z0e rfl rfl rfl rfl Zb2 mm0 rfl ?_; refine Z05 rfl rfl rfl rfl ?_; refine Z0r rfl rfl rfl rfl rfl rfl ?_; refine Z0z rfl rfl rfl rfl rfl ?_; refine Z02 ?_; exact Z24 (decide (a2 < ((n0.Arcs.getD x4.toNat default).cap))) H (Z00 rfl (Z00 rfl (Z00 rfl (Z00 rfl (Z00 rfl (Z00 rfl Z08)))))) (Z04 tk0 Z09)
   ·
    rintro a5 H; unfold Z8a at H; rcases Z0g H with ⟨a7, H⟩ | ⟨a7, H⟩
    · refine Z1d rfl a7 ?_; refine Z0b ?_; refine Z03 (ll := [0, 1]) rfl ?_; refine Z06 rfl rfl rfl rfl ?_; refine Z06 rfl rfl rfl rfl ?_; refine Z02 ?_; refine Z01 ?_; refine T.ret ?_; refine Z0f ?_; refine Z0o ?_; refine Z0f ?_; have H := Z0v H a6 ▸ a8; refine Z0f ?_; refine Z0o ?_; refine Z0f ?_; obtain ⟨rfl, rfl⟩ := ret2 H; exact Z59 rfl rfl rfl rfl (Res.tmp rfl) (Res.tmp rfl) Z09 ⟨rfl, rfl⟩
    · refine Z1r rfl (Bool.eq_false_iff.2 a7) ?_; refine T.skip ?_; refine Z01 ?_; obtain ⟨b8, H⟩ := Z0d H; refine Z03 (ll := [0, 1, 2, 3, 4]) rfl ?_; refine Z05 rfl rfl rfl rfl ?_; refine Z07 rfl rfl rfl rfl Z6y ?_; refine Z0e rfl rfl rfl rfl Zb2 mm0 rfl ?_; refine Zc5 b8 rfl rfl rfl rfl rfl ?_; refine Z06 rfl rfl rfl rfl ?_; refine Z02 ?_; refine Z0h ?_; refine Z01 ?_; obtain ⟨b9, H⟩ := Z0d H; refine Z03 (ll := [0, 1]) rfl ?_; refine Z18 b9 rfl rfl rfl rfl rfl ?_; refine Z05 rfl rfl rfl rfl ?_; refine Z02 ?_; have H := Z16 H a6; exact Z4h b6 (a2 - ((n0.Arcs.getD x4.toNat default).cap)) (x4 + 1) H (Nat.lt_succ_self _) (Z00 rfl (Z00 rfl (Z00 rfl (Z00 rfl Z08)))) Z09
  · refine Z15 rfl g5 ?_; refine T.exit ?_; refine Z0j ?_; have H := Z0v H a6 ▸ a8; refine Z0j ?_; refine Z0x ?_; exact Z24 a2 H (Z00 rfl Z08) Z09
 · rintro a3 H; unfold Z9r at H; refine Z0b ?_; obtain ⟨c3, H⟩ := Z0d H; refine Z03 (ll := [0, 1, 2, 3]) rfl ?_; refine Z05 rfl rfl rfl rfl ?_; refine Zc5 c3 rfl rfl rfl rfl rfl ?_; refine Z06 rfl rfl rfl rfl ?_; refine Z06 rfl rfl rfl rfl ?_; refine Z02 ?_; refine Z01 ?_; refine T.ret ?_; obtain ⟨rfl, rfl⟩ := ret2 H; exact Z59 rfl rfl rfl rfl (Res.tmp rfl) (Res.tmp rfl) Z09 ⟨rfl, rfl⟩
theorem Zhk {n0 : Net} {n0f3_b : Option Addr} {n0f3_n : Nat} {n0f3_c : Nat} (w : World) (h_n0f3 : RS w [] Z4g 3 n0f3_b n0f3_n n0f3_c n0.Arcs) {r0 : Bool} (H : Z8p n0 = some r0) : Fnc Try.prog 132 #[.agg #[.int .i64 n0.N, .int .i64 n0.S, .int .i64 n0.T, .slice n0f3_b n0f3_n n0f3_c]] w [] (fun v N => v = .bool r0 ∧ N = []) := by
 unfold Z8p at H; refine Fnc.enter (vs := [.agg #[.int .i64 n0.N, .int .i64 n0.S, .int .i64 n0.T, .slice n0f3_b n0f3_n n0f3_c]]) Try.func132 rfl rfl (Inv.refl w) ?_; refine Z0b ?_; refine Z03 (ll := [0, 1]) rfl ?_; refine Z1p rfl rfl rfl rfl ?_; intro b1; refine Z06 rfl rfl rfl rfl ?_; refine Z02 ?_; refine Z01 ?_; refine Z0b ?_; obtain ⟨⟨r3, r4⟩, e5, H⟩ := Z0l H; refine Z03 (ll := [0, 1, 2, 3, 4, 5, 6]) rfl ?_; refine Z0q rfl rfl rfl rfl Z2u mm0 rfl ?_; refine Z0n Zn7 rfl rfl rfl rfl (fun wc hwc => Zoa (n0 := n0) wc (h_n0f3.mono hwc) e5) ?_; rintro _ _ ⟨rfl, rfl⟩; refine Z05 rfl rfl rfl rfl ?_; refine TO.extract rfl rfl rfl rfl rfl ?_; refine TO.extract rfl rfl rfl rfl rfl ?_; refine Z06 rfl rfl rfl rfl ?_; refine Z06 rfl rfl rfl rfl ?_; refine Z02 ?_; refine Z01 ?_; refine Z0k (Z00 (t := 4) rfl Z08) ?_; refine Z0b ?_; refine Z03 (ll := [0, 1]) rfl ?_; refine Z05 rfl rfl rfl rfl ?_; refine Z06 rfl rfl rfl rfl ?_; refine Z02 ?_; refine Z01 ?_; refine T.ret ?_; obtain rfl := ret1 H; exact Z10 rfl rfl rfl rfl (Res.tmp rfl) Z09 ⟨rfl, rfl⟩
theorem Z5w {n0 : Net} {n0f3_b : Option Addr} {n0f3_n : Nat} {n0f3_c : Nat} (w : World) (h_n0f3 : RS w [] Z4g 3 n0f3_b n0f3_n n0f3_c n0.Arcs) {r0 : Int} (H : Z5x n0 = some r0) : Fnc Try.prog 72 #[.agg #[.int .i64 n0.N, .int .i64 n0.S, .int .i64 n0.T, .slice n0f3_b n0f3_n n0f3_c]] w [] (fun v N => v = .int .i64 r0 ∧ N = []) := by
 unfold Z5x at H; refine Fnc.enter (vs := [.agg #[.int .i64 n0.N, .int .i64 n0.S, .int .i64 n0.T, .slice n0f3_b n0f3_n n0f3_c]]) Try.func72 rfl rfl (Inv.refl w) ?_; refine Z0b ?_; refine Z03 (ll := [0, 1]) rfl ?_; refine Z1p rfl rfl rfl rfl ?_; intro b1; refine Z06 rfl rfl rfl rfl ?_; refine Z02 ?_; refine Z01 ?_; refine Z0b ?_; refine Z0b ?_; obtain ⟨⟨⟩, e3, H⟩ := Z0l H; refine Z03 (ll := [0, 1]) rfl ?_; refine Z0n Zne rfl rfl rfl rfl (fun wc hwc => Zkg  wc  e3) ?_; rintro _ _ ⟨b4, b5, rfl, rfl⟩; refine Z05 rfl rfl rfl rfl ?_; refine Z02 ?_; refine Z01 ?_; refine Z1l (fun (a2 : Unit) => Z85 = some r0) (fun (a2 : Unit) => []) (fun (a2 : Unit) => []) ?_ ?_
 ·
  refine T.block ?_; refine Zq1 ?_; refine Z6i ?_; refine Z0b ?_; refine Z03 (ll := [0]) rfl ?_; refine Z84 (b := true) rfl rfl rfl rfl rfl rfl (by first | decide | rfl) ?_; refine Z02 ?_; refine Z01 ?_; refine Z0b ?_; refine Z1d rfl rfl ?_; refine T.skip ?_; refine Z01 ?_; refine Z0b ?_; refine T.block ?_; refine Z0b ?_; refine Z03 (ll := [0, 1, 2]) rfl ?_; refine Zan (vs := [.func (.func 125) #[] #[], .int .i64 10]) rfl rfl rfl rfl rfl Z94 Z96 (by decide) rfl ?_; refine Z1i rfl rfl rfl Z93 ?_; intro b8; refine Z1b rfl rfl rfl rfl tk0 Z95 rfl rfl rfl ?_; refine Z02 ?_; refine Z01 ?_; refine Z0b ?_; obtain ⟨c4, a9, H⟩ := Z0l H; refine Z03 (ll := [0, 1, 2, 3, 4]) rfl ?_; refine Z07 rfl rfl rfl rfl Z77 ?_; refine Z0e rfl rfl rfl rfl Zah mm0 rfl ?_; refine Z0q rfl rfl rfl rfl Z2u mm3 rfl ?_; refine Z3a Znd rfl rfl rfl rfl rfl (fun wc hwc => Zhp (n0 := n0) wc (h_n0f3.mono hwc) a9) ?_; rintro _ _ ⟨rfl, rfl⟩; refine TO.not rfl rfl rfl rfl ?_; refine Z02 ?_; refine Z01 ?_; refine Z0k (Z00 (t := 1) rfl (Z00 (t := 5) rfl (Z00 (t := 6) rfl (Z00 (t := 4) rfl (Z00 (t := 13) rfl Z08))))) ?_; rcases Z0g H with ⟨a3, H⟩ | ⟨a3, H⟩
  · refine Z1d rfl a3 ?_; refine Z0b ?_; refine Z03 (ll := [0, 1, 2]) rfl ?_; refine Z07 rfl rfl rfl rfl Z76 ?_; refine Z0e rfl rfl rfl rfl Zai mm0 rfl ?_; refine Z06 rfl rfl rfl rfl ?_; refine Z02 ?_; refine Z01 ?_; refine T.ret ?_; refine Z0o ?_; refine Z0f ?_; refine Z0f ?_; refine Z0o ?_; refine Z0f ?_; obtain rfl := ret1 H; exact Z10 rfl rfl rfl rfl (Res.tmp rfl) Z09 ⟨rfl, rfl⟩
  ·
   refine Z1r rfl (Bool.eq_false_iff.2 a3) ?_; refine T.skip ?_; refine Z0h ?_; refine Z01 ?_; refine Z03 (ll := [0, 1]) rfl ?_; refine Z9i (r := 1) (by decide) rfl rfl rfl rfl rfl ?_; refine Z05 rfl rfl rfl rfl ?_; refine Z02 ?_; refine Z9e ?_; refine Z6i ?_; refine Z0b ?_; refine Z03 (ll := [0]) rfl ?_; refine Z84 (b := true) rfl rfl rfl rfl rfl rfl (by first | decide | rfl) ?_; refine Z02 ?_; refine Z01 ?_; refine Z0b ?_; refine Z1d rfl rfl ?_; refine T.skip ?_; refine Z01 ?_; refine Z0b ?_; refine T.block ?_; refine Z0b ?_; refine Z03 (ll := [0, 1, 2]) rfl ?_; refine Zan (vs := [.func (.func 126) #[] #[], .int .i64 11]) rfl rfl rfl rfl rfl Z94 Z96 (by decide) rfl ?_; refine Z1i rfl rfl rfl Z93 ?_; intro c7; refine Z1b rfl rfl rfl rfl tk0 Z95 rfl rfl rfl ?_; refine Z02 ?_; refine Z01 ?_; refine Z0b ?_; obtain ⟨c8, b0, H⟩ := Z0l H; refine Z03 (ll := [0, 1, 2, 3, 4]) rfl ?_; refine Z07 rfl rfl rfl rfl Z77 ?_; refine Z0e rfl rfl rfl rfl Zah mm0 rfl ?_; refine Z0q rfl rfl rfl rfl Z2u mm4 rfl ?_; refine Z3a Znc rfl rfl rfl rfl rfl (fun wc hwc => Zho (n0 := n0) wc (h_n0f3.mono hwc) b0) ?_; rintro _ _ ⟨rfl, rfl⟩; refine TO.not rfl rfl rfl rfl ?_; refine Z02 ?_; refine Z01 ?_; rcases Z0g H with ⟨a4, H⟩ | ⟨a4, H⟩
   · refine Z1d rfl a4 ?_; refine Z0b ?_; refine Z03 (ll := [0, 1, 2]) rfl ?_; refine Z07 rfl rfl rfl rfl Z76 ?_; refine Z0e rfl rfl rfl rfl Zai mm0 rfl ?_; refine Z06 rfl rfl rfl rfl ?_; refine Z02 ?_; refine Z01 ?_; refine Z0k (Z00 (t := 2) rfl Z08) ?_; refine T.ret ?_; refine Z0o ?_; refine Z0f ?_; refine Z0f ?_; refine Z0o ?_; refine Z0f ?_; obtain rfl := ret1 H; exact Z10 rfl rfl rfl rfl (Res.tmp rfl) Z09 ⟨rfl, rfl⟩
   ·
    refine Z1r rfl (Bool.eq_false_iff.2 a4) ?_; refine T.skip ?_; refine Z0h ?_; refine Z01 ?_; refine Z0k (Z00 (t := 1) rfl (Z00 (t := 5) rfl (Z00 (t := 6) rfl Z08))) ?_; refine Z03 (ll := [0, 1]) rfl ?_; refine Z9i (r := 2) (by decide) rfl rfl rfl rfl rfl ?_; refine Z05 rfl rfl rfl rfl ?_; refine Z02 ?_; refine Z9e ?_; refine Z6i ?_; refine Z0b ?_; refine Z03 (ll := [0]) rfl ?_; refine Z84 (b := true) rfl rfl rfl rfl rfl rfl (by first | decide | rfl) ?_; refine Z02 ?_; refine Z01 ?_; refine Z0b ?_; refine Z1d rfl rfl ?_; refine T.skip ?_; refine Z01 ?_; refine Z0b ?_; refine T.block ?_; refine Z0b ?_; refine Z03 (ll := [0, 1, 2]) rfl ?_; refine Zan (vs := [.func (.func 127) #[] #[], .int .i64 12]) rfl rfl rfl rfl rfl Z94 Z96 (by decide) rfl ?_; refine Z1i rfl rfl rfl Z93 ?_; intro c9; refine Z1b rfl rfl rfl rfl tk0 Z95 rfl rfl rfl ?_; refine Z02 ?_; refine Z01 ?_; refine Z0b ?_; obtain ⟨d0, b6, H⟩ := Z0l H; refine Z03 (ll := [0, 1, 2, 3, 4]) rfl ?_; refine Z07 rfl rfl rfl rfl Z77 ?_; refine Z0e rfl rfl rfl rfl Zah mm0 rfl ?_; refine Z0q rfl rfl rfl rfl Z2u mm5 rfl ?_; refine Z3a Znb rfl rfl rfl rfl rfl (fun wc hwc => Zhn (n0 := n0) wc (h_n0f3.mono hwc) b6) ?_; rintro _ _ ⟨rfl, rfl⟩; refine TO.not rfl rfl rfl rfl ?_; refine Z02 ?_; refine Z01 ?_; rcases Z0g H with ⟨a5, H⟩ | ⟨a5, H⟩
    · refine Z1d rfl a5 ?_; refine Z0b ?_; refine Z03 (ll := [0, 1, 2]) rfl ?_; refine Z07 rfl rfl rfl rfl Z76 ?_; refine Z0e rfl rfl rfl rfl Zai mm0 rfl ?_; refine Z06 rfl rfl rfl rfl ?_; refine Z02 ?_; refine Z01 ?_; refine Z0k (Z00 (t := 2) rfl Z08) ?_; refine T.ret ?_; refine Z0o ?_; refine Z0f ?_; refine Z0f ?_; refine Z0o ?_; refine Z0f ?_; obtain rfl := ret1 H; exact Z10 rfl rfl rfl rfl (Res.tmp rfl) Z09 ⟨rfl, rfl⟩
    ·
     refine Z1r rfl (Bool.eq_false_iff.2 a5) ?_; refine T.skip ?_; refine Z0h ?_; refine Z01 ?_; refine Z0k (Z00 (t := 1) rfl (Z00 (t := 5) rfl (Z00 (t := 6) rfl Z08))) ?_; refine Z03 (ll := [0, 1]) rfl ?_; refine Z9i (r := 3) (by decide) rfl rfl rfl rfl rfl ?_; refine Z05 rfl rfl rfl rfl ?_; refine Z02 ?_; refine Z9e ?_; refine Z6i ?_; refine Z0b ?_; refine Z03 (ll := [0]) rfl ?_; refine Z84 (b := true) rfl rfl rfl rfl rfl rfl (by first | decide | rfl) ?_; refine Z02 ?_; refine Z01 ?_; refine Z0b ?_; refine Z1d rfl rfl ?_; refine T.skip ?_; refine Z01 ?_; refine Z0b ?_; refine T.block ?_; refine Z0b ?_; refine Z03 (ll := [0, 1, 2]) rfl ?_; refine Zan (vs := [.func (.func 138) #[] #[.pointer (some ⟨b4, 0, none⟩)], .int .i64 13]) rfl rfl rfl rfl rfl Z94 Z96 (by decide) rfl ?_; refine Z1i rfl rfl rfl Z93 ?_; intro d1; refine Z1b rfl rfl rfl rfl tk0 Z95 rfl rfl rfl ?_; refine Z02 ?_; refine Z01 ?_; refine Z0b ?_; obtain ⟨d3, b7, H⟩ := Z0l H; refine Z03 (ll := [0, 1, 2, 3, 4]) rfl ?_; refine Z07 rfl rfl rfl rfl Z77 ?_; refine Z0e rfl rfl rfl rfl Zah mm0 rfl ?_; refine Z0q rfl rfl rfl rfl Z2u mm6 rfl ?_; refine Z3a Zhb rfl rfl rfl rfl rfl (fun wc hwc => Zdh (n0 := n0) wc (h_n0f3.mono hwc) (hwc.hb (cs := [.func (.func 130) #[] #[]]) mm4) b7) ?_; rintro _ _ ⟨rfl, rfl⟩; refine TO.not rfl rfl rfl rfl ?_; refine Z02 ?_; refine Z01 ?_; rcases Z0g H with ⟨a6, H⟩ | ⟨a6, H⟩
     · refine Z1d rfl a6 ?_; refine Z0b ?_; refine Z03 (ll := [0, 1, 2]) rfl ?_; refine Z07 rfl rfl rfl rfl Z76 ?_; refine Z0e rfl rfl rfl rfl Zai mm0 rfl ?_; refine Z06 rfl rfl rfl rfl ?_; refine Z02 ?_; refine Z01 ?_; refine Z0k (Z00 (t := 2) rfl Z08) ?_; refine T.ret ?_; refine Z0o ?_; refine Z0f ?_; refine Z0f ?_; refine Z0o ?_; refine Z0f ?_; obtain rfl := ret1 H; exact Z10 rfl rfl rfl rfl (Res.tmp rfl) Z09 ⟨rfl, rfl⟩
     ·
      refine Z1r rfl (Bool.eq_false_iff.2 a6) ?_; refine T.skip ?_; refine Z0h ?_; refine Z01 ?_; refine Z0k (Z00 (t := 1) rfl (Z00 (t := 5) rfl (Z00 (t := 6) rfl Z08))) ?_; refine Z03 (ll := [0, 1]) rfl ?_; refine Z9i (r := 4) (by decide) rfl rfl rfl rfl rfl ?_; refine Z05 rfl rfl rfl rfl ?_; refine Z02 ?_; refine Z9e ?_; refine Z6i ?_; refine Z0b ?_; refine Z03 (ll := [0]) rfl ?_; refine Z84 (b := true) rfl rfl rfl rfl rfl rfl (by first | decide | rfl) ?_; refine Z02 ?_; refine Z01 ?_; refine Z0b ?_; refine Z1d rfl rfl ?_; refine T.skip ?_; refine Z01 ?_; refine Z0b ?_; refine T.block ?_; refine Z0b ?_; refine Z03 (ll := [0, 1, 2]) rfl ?_; refine Zan (vs := [.func (.func 138) #[] #[.pointer (some ⟨b5, 0, none⟩)], .int .i64 14]) rfl rfl rfl rfl rfl Z94 Z96 (by decide) rfl ?_; refine Z1i rfl rfl rfl Z93 ?_; intro d4; refine Z1b rfl rfl rfl rfl tk0 Z95 rfl rfl rfl ?_; refine Z02 ?_; refine Z01 ?_; refine Z0b ?_; obtain ⟨d5, b9, H⟩ := Z0l H; refine Z03 (ll := [0, 1, 2, 3, 4]) rfl ?_; refine Z07 rfl rfl rfl rfl Z77 ?_; refine Z0e rfl rfl rfl rfl Zah mm0 rfl ?_; refine Z0q rfl rfl rfl rfl Z2u mm7 rfl ?_; refine Z3a Zhb rfl rfl rfl rfl rfl (fun wc hwc => Zdg (n0 := n0) wc (h_n0f3.mono hwc) (hwc.hb (cs := [.func (.func 131) #[] #[]]) mm6) b9) ?_; rintro _ _ ⟨rfl, rfl⟩; refine TO.not rfl rfl rfl rfl ?_; refine Z02 ?_; refine Z01 ?_; rcases Z0g H with ⟨a7, H⟩ | ⟨a7, H⟩
      · refine Z1d rfl a7 ?_; refine Z0b ?_; refine Z03 (ll := [0, 1, 2]) rfl ?_; refine Z07 rfl rfl rfl rfl Z76 ?_; refine Z0e rfl rfl rfl rfl Zai mm0 rfl ?_; refine Z06 rfl rfl rfl rfl ?_; refine Z02 ?_; refine Z01 ?_; refine Z0k (Z00 (t := 2) rfl Z08) ?_; refine T.ret ?_; refine Z0o ?_; refine Z0f ?_; refine Z0f ?_; refine Z0o ?_; refine Z0f ?_; obtain rfl := ret1 H; exact Z10 rfl rfl rfl rfl (Res.tmp rfl) Z09 ⟨rfl, rfl⟩
      ·
       refine Z1r rfl (Bool.eq_false_iff.2 a7) ?_; refine T.skip ?_; refine Z0h ?_; refine Z01 ?_; refine Z0k (Z00 (t := 1) rfl (Z00 (t := 5) rfl (Z00 (t := 6) rfl Z08))) ?_; refine Z03 (ll := [0, 1]) rfl ?_; refine Z9i (r := 5) (by decide) rfl rfl rfl rfl rfl ?_; refine Z05 rfl rfl rfl rfl ?_; refine Z02 ?_; refine Z9e ?_; refine Z6i ?_; refine Z0b ?_; refine Z03 (ll := [0]) rfl ?_; refine Z84 (b := true) rfl rfl rfl rfl rfl rfl (by first | decide | rfl) ?_; refine Z02 ?_; refine Z01 ?_; refine Z0b ?_; refine Z1d rfl rfl ?_; refine T.skip ?_; refine Z01 ?_; refine Z0b ?_; refine T.block ?_; refine Z0b ?_; refine Z03 (ll := [0, 1, 2]) rfl ?_; refine Zan (vs := [.func (.func 132) #[] #[], .int .i64 15]) rfl rfl rfl rfl rfl Z94 Z96 (by decide) rfl ?_; refine Z1i rfl rfl rfl Z93 ?_; intro d6; refine Z1b rfl rfl rfl rfl tk0 Z95 rfl rfl rfl ?_; refine Z02 ?_; refine Z01 ?_; refine Z0b ?_; obtain ⟨d7, c3, H⟩ := Z0l H; refine Z03 (ll := [0, 1, 2, 3, 4]) rfl ?_; refine Z07 rfl rfl rfl rfl Z77 ?_; refine Z0e rfl rfl rfl rfl Zah mm0 rfl ?_; refine Z0q rfl rfl rfl rfl Z2u mm8 rfl ?_; refine Z3a Zn8 rfl rfl rfl rfl rfl (fun wc hwc => Zhk (n0 := n0) wc (h_n0f3.mono hwc) c3) ?_; rintro _ _ ⟨rfl, rfl⟩; refine TO.not rfl rfl rfl rfl ?_; refine Z02 ?_; refine Z01 ?_; rcases Z0g H with ⟨a8, H⟩ | ⟨a8, H⟩
       · refine Z1d rfl a8 ?_; refine Z0b ?_; refine Z03 (ll := [0, 1, 2]) rfl ?_; refine Z07 rfl rfl rfl rfl Z76 ?_; refine Z0e rfl rfl rfl rfl Zai mm0 rfl ?_; refine Z06 rfl rfl rfl rfl ?_; refine Z02 ?_; refine Z01 ?_; refine Z0k (Z00 (t := 2) rfl Z08) ?_; refine T.ret ?_; refine Z0o ?_; refine Z0f ?_; refine Z0f ?_; refine Z0o ?_; refine Z0f ?_; obtain rfl := ret1 H; exact Z10 rfl rfl rfl rfl (Res.tmp rfl) Z09 ⟨rfl, rfl⟩
       · refine Z1r rfl (Bool.eq_false_iff.2 a8) ?_; refine T.skip ?_; refine Z0h ?_; refine Z01 ?_; refine Z0k (Z00 (t := 1) rfl (Z00 (t := 5) rfl (Z00 (t := 6) rfl Z08))) ?_; refine Z03 (ll := [0, 1]) rfl ?_; refine Z9i (r := 6) (by decide) rfl rfl rfl rfl rfl ?_; refine Z05 rfl rfl rfl rfl ?_; refine Z02 ?_; refine Z9e ?_; refine Z6i ?_; refine Z0b ?_; refine Z03 (ll := [0]) rfl ?_; refine Z84 (b := false) rfl rfl rfl rfl rfl rfl (by first | decide | rfl) ?_; refine Z02 ?_; refine Z01 ?_; refine Z0b ?_; refine Z1r rfl rfl ?_; refine T.exit ?_; refine Z0j ?_; refine Z0j ?_; refine Z0x ?_; exact Z24 () H Z08 Z09
 · rintro a2 H; unfold Z85 at H; refine Z0b ?_; refine Z03 (ll := [0]) rfl ?_; refine Z06 rfl rfl rfl rfl ?_; refine Z02 ?_; refine Z01 ?_; refine T.ret ?_; obtain rfl := ret1 H; exact Z10 rfl rfl rfl rfl (Res.tmp rfl) Z09 ⟨rfl, rfl⟩
theorem Zhr {n0 : Net} {n0f3_b : Option Addr} {n0f3_n : Nat} {n0f3_c : Nat} (w : World) (h_n0f3 : RS w [] Z4g 3 n0f3_b n0f3_n n0f3_c n0.Arcs) {r0 : List Int} (H : Z7g n0 = some r0) : Fnc Try.prog 73 #[.agg #[.int .i64 n0.N, .int .i64 n0.S, .int .i64 n0.T, .slice n0f3_b n0f3_n n0f3_c]] w [] (fun v N => ∃ (a8 : Option Nat) (b7 : Nat) (b8 : Nat) (d0 : List Value), v = .slice (sb a8) b7 b8 ∧ N = [(a8, .cells (arr (intC .i64) r0 d0).toArray 3 (0, 0))] ∧ r0.length = b7 ∧ b7 ≤ b8 ∧ d0.length = (b8 - b7) * 1 ∧ (a8 = none → b8 = 0)) := by
 unfold Z7g at H; refine Fnc.enter (vs := [.agg #[.int .i64 n0.N, .int .i64 n0.S, .int .i64 n0.T, .slice n0f3_b n0f3_n n0f3_c]]) Try.func73 rfl rfl (Inv.refl w) ?_; refine Z0b ?_; refine Z03 (ll := [0, 1]) rfl ?_; refine Z1p rfl rfl rfl rfl ?_; intro b1; refine Z06 rfl rfl rfl rfl ?_; refine Z02 ?_; refine Z01 ?_; refine Z0b ?_; obtain ⟨g3, H⟩ := Z0d H; obtain ⟨g4, H⟩ := Z0d H; refine Z03 (ll := [0, 1, 2, 3, 4]) rfl ?_; refine Z07 rfl rfl rfl rfl Z38 ?_; refine Z0e rfl rfl rfl rfl Z17 mm0 rfl ?_; refine Z18 g3 rfl rfl rfl rfl rfl ?_; refine Zcx g4 rfl rfl rfl rfl rfl Z2b Z25 Zds Zdu rfl ?_; intro b5; refine Z06 rfl rfl rfl rfl ?_; refine Z02 ?_; refine Z01 ?_; refine Z0b ?_; refine Z0b ?_; refine Z03 (ll := [0, 1, 2, 3]) rfl ?_; refine Z07 rfl rfl rfl rfl Z4w ?_; refine Z0e rfl rfl rfl rfl Z7m mm1 rfl ?_; refine Z26 (xs := n0.Arcs) h_n0f3.len rfl rfl rfl rfl rfl Z3w ?_; refine Z05 rfl rfl rfl rfl ?_; refine Z02 ?_; refine Z01 ?_; refine Z1l (fun (a3 : List Int) => Z6v n0 a3 = some r0 ∧ a3.length = (n0.N + 1).toNat) (fun (a3 : List Int) => [(1, .pointer (some ⟨b1, 0, none⟩)), (3, .slice (some ⟨b5, 0, none⟩) ((n0.N + 1).toNat) ((n0.N + 1).toNat))]) (fun (a3 : List Int) => [(some b1, .cells #[.int .i64 n0.N, .int .i64 n0.S, .int .i64 n0.T, .slice n0f3_b n0f3_n n0f3_c] 24 (0, 0)), (some b5, .cells (arr (intC .i64) a3 ([])).toArray 3 (0, 0))]) ?_ ?_
 ·
  refine T.block ?_; obtain ⟨e2, e3, e4⟩ := Z0l H; refine Z7r (fun (b0 : Nat) (a4 : List Int) (x9 : Int) => Z28 (fun s => Z5m n0 s.1 s.2) b0 (a4, x9) = some e2 ∧ a4.length = (n0.N + 1).toNat) (fun (b0 : Nat) (a4 : List Int) (x9 : Int) => [(1, .pointer (some ⟨b1, 0, none⟩)), (3, .slice (some ⟨b5, 0, none⟩) ((n0.N + 1).toNat) ((n0.N + 1).toNat)), (12, .slice n0f3_b n0f3_n n0f3_c), (13, .int .i64 (n0.Arcs.length : Int)), (14, .int .i64 x9)]) (fun (b0 : Nat) (a4 : List Int) (x9 : Int) => [(some b1, .cells #[.int .i64 n0.N, .int .i64 n0.S, .int .i64 n0.T, .slice n0f3_b n0f3_n n0f3_c] 24 (0, 0)), (some b5, .cells (arr (intC .i64) a4 ([])).toArray 3 (0, 0))]) (fun (b0 : Nat) (a4 : List Int) (x9 : Int) => b0) Z4d (List.replicate ((n0.N + 1).toNat) (0 : Int)) 0 ⟨e3, List.length_replicate⟩ (Z00 rfl (Z00 rfl (Z00 rfl (Z00 rfl (Z00 rfl Z08))))) (Z04 tk1 (Z04 tk0 Z09)) ?_; rintro b0 a4 x9 ⟨H, a9⟩; obtain ⟨d1, e5, rfl, H, b9⟩ := Z1c H; have H : Z5m n0 a4 x9 = some e5 := H; unfold Z5m at H; refine Z0b ?_; refine Z03 (ll := [0]) rfl ?_; refine Z0r rfl rfl rfl rfl rfl rfl ?_; refine Z02 ?_; refine Z01 ?_; refine Z0b ?_; rcases Z0g H with ⟨c3, H⟩ | ⟨c3, H⟩
  ·
   refine Z14 rfl c3 ?_; refine T.skip ?_; refine Z01 ?_; refine Z0b ?_; refine T.block ?_; refine Z0b ?_; obtain ⟨d3, H⟩ := Z0d H; refine Z03 (ll := [0, 1, 2, 3]) rfl ?_; refine Z2k h_n0f3 d3 rfl rfl rfl rfl rfl Z3w Z55 ?_; refine Z8o (cs := [.int .i64 ((n0.Arcs.getD x9.toNat default).fr), .int .i64 ((n0.Arcs.getD x9.toNat default).to), .int .i64 ((n0.Arcs.getD x9.toNat default).cap)]) default h_n0f3 d3 rfl rfl rfl rfl rfl Z8i ?_; refine Z1i rfl rfl rfl Zag ?_; intro g1; refine Z1b rfl rfl rfl rfl tk0 Z55 rfl rfl rfl ?_; refine Z02 ?_; refine Z01 ?_; refine Z0b ?_; refine Z03 (ll := [0, 1, 2, 3, 4]) rfl ?_; refine Z07 rfl rfl rfl rfl Z64 ?_; refine Z0e rfl rfl rfl rfl Z17 mm0 rfl ?_; refine Z07 rfl rfl rfl rfl Z6z ?_; refine Z0e rfl rfl rfl rfl Z17 mm0 rfl ?_; refine Z0r rfl rfl rfl rfl rfl rfl ?_; refine Z02 ?_; refine Z01 ?_; rcases Z0g H with ⟨c4, H⟩ | ⟨c4, H⟩
   · refine Z14 rfl c4 ?_; refine Z0b ?_; obtain ⟨e6, H⟩ := Z0d H; obtain ⟨d4, H⟩ := Z0d H; obtain ⟨e7, H⟩ := Z0d H; obtain ⟨d5, H⟩ := Z0d H; refine Z03 (ll := [0, 1, 2, 3, 4, 5, 6, 7, 8]) rfl ?_; refine Z05 rfl rfl rfl rfl ?_; refine Z07 rfl rfl rfl rfl Z64 ?_; refine Z0e rfl rfl rfl rfl Z17 mm0 rfl ?_; refine Z18 e6 rfl rfl rfl rfl rfl ?_; refine Z7b a9 d4 rfl rfl rfl rfl rfl Z2b Z25 ?_; refine Zc7 d4 rfl rfl rfl rfl Z17 mm2 ?_; refine Z18 e7 rfl rfl rfl rfl rfl ?_; refine Z7b a9 d5 rfl rfl rfl rfl rfl Z2b Z25 ?_; refine Z8n d5 rfl rfl rfl rfl tk2 Z25 ?_; refine Z02 ?_; refine Z01 ?_; refine Z0k (Z00 (t := 1) rfl (Z00 (t := 3) rfl (Z00 (t := 12) rfl (Z00 (t := 13) rfl (Z00 (t := 14) rfl (Z00 (t := 5) rfl Z08)))))) ?_; obtain ⟨e8, H⟩ := Z0d H; obtain ⟨d6, H⟩ := Z0d H; obtain ⟨e9, H⟩ := Z0d H; obtain ⟨d7, H⟩ := Z0d H; refine Z03 (ll := [0, 1, 2, 3, 4, 5, 6, 7, 8]) rfl ?_; refine Z05 rfl rfl rfl rfl ?_; refine Z07 rfl rfl rfl rfl Z6z ?_; refine Z0e rfl rfl rfl rfl Z17 mm1 rfl ?_; refine Z18 e8 rfl rfl rfl rfl rfl ?_; refine Z7b (List.length_set.trans a9) d6 rfl rfl rfl rfl rfl Z2b Z25 ?_; refine Zc7 d6 rfl rfl rfl rfl Z17 mm0 ?_; refine Z18 e9 rfl rfl rfl rfl rfl ?_; refine Z7b (List.length_set.trans a9) d7 rfl rfl rfl rfl rfl Z2b Z25 ?_; refine Z8n d7 rfl rfl rfl rfl tk0 Z25 ?_; refine Z02 ?_; refine Z0h ?_; refine Z01 ?_; refine Z0k (Z00 (t := 1) rfl (Z00 (t := 3) rfl (Z00 (t := 12) rfl (Z00 (t := 13) rfl (Z00 (t := 14) rfl Z08))))) ?_; obtain ⟨f0, H⟩ := Z0d H; refine Z03 (ll := [0, 1]) rfl ?_; refine Z18 f0 rfl rfl rfl rfl rfl ?_; refine Z05 rfl rfl rfl rfl ?_; refine Z02 ?_; have H := Z16 H b9; exact Z4h d1 ((a4.set (((n0.Arcs.getD x9.toNat default).fr) + 1).toNat ((a4.getD (((n0.Arcs.getD x9.toNat default).fr) + 1).toNat 0) + 1)).set (((n0.Arcs.getD x9.toNat default).to) + 1).toNat (((a4.set (((n0.Arcs.getD x9.toNat default).fr) + 1).toNat ((a4.getD (((n0.Arcs.getD x9.toNat default).fr) + 1).toNat 0) + 1)).getD (((n0.Arcs.getD x9.toNat default).to) + 1).toNat 0) + 1)) (x9 + 1) ⟨H, (List.length_set.trans (List.length_set.trans a9))⟩ (Nat.lt_succ_self _) (Z00 rfl (Z00 rfl (Z00 rfl (Z00 rfl (Z00 rfl Z08))))) (Z04 tk2 (Z04 tk0 Z09))
   · refine Z15 rfl c4 ?_; refine T.skip ?_; refine Z0h ?_; refine Z01 ?_; refine Z0k (Z00 (t := 1) rfl (Z00 (t := 3) rfl (Z00 (t := 12) rfl (Z00 (t := 13) rfl (Z00 (t := 14) rfl Z08))))) ?_; obtain ⟨f2, H⟩ := Z0d H; refine Z03 (ll := [0, 1]) rfl ?_; refine Z18 f2 rfl rfl rfl rfl rfl ?_; refine Z05 rfl rfl rfl rfl ?_; refine Z02 ?_; have H := Z16 H b9; exact Z4h d1 a4 (x9 + 1) ⟨H, a9⟩ (Nat.lt_succ_self _) (Z00 rfl (Z00 rfl (Z00 rfl (Z00 rfl (Z00 rfl Z08))))) (Z04 tk1 (Z04 tk1 Z09))
  · refine Z15 rfl c3 ?_; refine T.exit ?_; refine Z0j ?_; have H := Z0v H b9 ▸ e4; refine Z0j ?_; refine Z0x ?_; exact Z24 a4 ⟨H, a9⟩ (Z00 rfl (Z00 rfl Z08)) (Z04 tk0 (Z04 tk0 Z09))
 ·
  rintro a3 ⟨H, c7⟩; unfold Z6v at H; refine Z0b ?_; refine Z0b ?_; refine Z03 (ll := [0, 1, 2]) rfl ?_; refine Z07 rfl rfl rfl rfl Z38 ?_; refine Z0e rfl rfl rfl rfl Z17 mm0 rfl ?_; refine Z05 rfl rfl rfl rfl ?_; refine Z02 ?_; refine Z01 ?_; refine Z1l (fun (a5 : List Int) => Z6u a5 = some r0 ∧ a5.length = (n0.N + 1).toNat) (fun (a5 : List Int) => [(3, .slice (some ⟨b5, 0, none⟩) ((n0.N + 1).toNat) ((n0.N + 1).toNat))]) (fun (a5 : List Int) => [(some b5, .cells (arr (intC .i64) a5 ([])).toArray 3 (0, 0))]) ?_ ?_
  ·
   refine T.block ?_; obtain ⟨f3, f4, f5⟩ := Z0l H; refine Z7r (fun (b6 : Nat) (a2 : List Int) (a6 : Int) => Z28 (fun s => Z5l n0 s.1 s.2) b6 (a2, a6) = some f3 ∧ a2.length = (n0.N + 1).toNat) (fun (b6 : Nat) (a2 : List Int) (a6 : Int) => [(3, .slice (some ⟨b5, 0, none⟩) ((n0.N + 1).toNat) ((n0.N + 1).toNat)), (41, .int .i64 n0.N), (42, .int .i64 a6)]) (fun (b6 : Nat) (a2 : List Int) (a6 : Int) => [(some b5, .cells (arr (intC .i64) a2 ([])).toArray 3 (0, 0))]) (fun (b6 : Nat) (a2 : List Int) (a6 : Int) => b6) Z4d a3 0 ⟨f4, c7⟩ (Z00 rfl (Z00 rfl (Z00 rfl Z08))) (Z04 tk1 Z09) ?_; rintro b6 a2 a6 ⟨H, a7⟩; obtain ⟨f6, f7, rfl, H, d8⟩ := Z1c H; have H : Z5l n0 a2 a6 = some f7 := H; unfold Z5l at H; refine Z0b ?_; refine Z03 (ll := [0]) rfl ?_; refine Z0r rfl rfl rfl rfl rfl rfl ?_; refine Z02 ?_; refine Z01 ?_; refine Z0b ?_; rcases Z0g H with ⟨c8, H⟩ | ⟨c8, H⟩
   ·
    refine Z14 rfl c8 ?_; refine T.skip ?_; refine Z01 ?_; refine Z0b ?_; refine T.block ?_; refine Z0b ?_; refine Z03 (ll := [0, 1]) rfl ?_; refine Z05 rfl rfl rfl rfl ?_; refine Z06 rfl rfl rfl rfl ?_; refine Z02 ?_; refine Z01 ?_; obtain ⟨f8, H⟩ := Z0d H; obtain ⟨d9, H⟩ := Z0d H; obtain ⟨e0, H⟩ := Z0d H; obtain ⟨f9, H⟩ := Z0d H; obtain ⟨e1, H⟩ := Z0d H; apply Z9z [(45, _), (46, _), (47, _), (48, _), (49, _), (50, _), (51, _), (52, _), (53, _)]
    · exact Z4y
    · kernel_rfl
    · kernel_rfl
    · exact rfl
    · exact rfl
    ·
     refine ⟨?_, ?_, ?_, ?_, ?_, ?_, ?_, ?_, ?_, trivial⟩
     · intro Es; refine Z05 rfl rfl rfl rfl ?_; exact Z02 (Z4t rfl (Z0a _))
     · intro Es; refine Z05 rfl rfl rfl rfl ?_; exact Z02 (Z4t rfl (Z0a _))
     · intro Es; refine Z18 f8 rfl rfl rfl rfl rfl ?_; exact Z02 (Z4t rfl (Z0a _))
     · intro Es; refine Z7b a7 d9 rfl rfl rfl rfl rfl Z2b Z25 ?_; exact Z02 (Z4t rfl (Z0a _))
     · intro Es; refine Zc7 d9 rfl rfl rfl rfl Z17 mm0 ?_; exact Z02 (Z4t rfl (Z0a _))
     · intro Es; refine Z05 rfl rfl rfl rfl ?_; exact Z02 (Z4t rfl (Z0a _))
     · intro Es; refine Z05 rfl rfl rfl rfl ?_; exact Z02 (Z4t rfl (Z0a _))
     · intro Es; refine Z7b a7 e0 rfl rfl rfl rfl rfl Z2b Z25 ?_; exact Z02 (Z4t rfl (Z0a _))
     · intro Es; refine Zc7 e0 rfl rfl rfl rfl Z17 mm0 ?_; exact Z02 (Z4t rfl (Z0a _))
    refine Z18 f9 rfl rfl rfl rfl rfl ?_; refine Z7b a7 e1 rfl rfl rfl rfl rfl Z2b Z25 ?_; refine Z8n e1 rfl rfl rfl rfl tk0 Z25 ?_; refine Z02 ?_; refine Z0h ?_; refine Z01 ?_; refine Z0k (Z00 (t := 3) rfl (Z00 (t := 41) rfl (Z00 (t := 42) rfl Z08))) ?_; obtain ⟨g0, H⟩ := Z0d H; refine Z03 (ll := [0, 1]) rfl ?_; refine Z18 g0 rfl rfl rfl rfl rfl ?_; refine Z05 rfl rfl rfl rfl ?_; refine Z02 ?_; have H := Z16 H d8; exact Z4h f6 (a2.set (a6 + 1).toNat ((a2.getD (a6 + 1).toNat 0) + (a2.getD a6.toNat 0))) (a6 + 1) ⟨H, (List.length_set.trans a7)⟩ (Nat.lt_succ_self _) (Z00 rfl (Z00 rfl (Z00 rfl Z08))) (Z04 tk0 Z09)
   · refine Z15 rfl c8 ?_; refine T.exit ?_; refine Z0j ?_; have H := Z0v H d8 ▸ f5; refine Z0j ?_; refine Z0x ?_; exact Z24 a2 ⟨H, a7⟩ (Z00 rfl Z08) (Z04 tk0 Z09)
  · rintro a5 ⟨H, c9⟩; unfold Z6u at H; refine Z0b ?_; refine Z03 (ll := [0, 1]) rfl ?_; refine Z05 rfl rfl rfl rfl ?_; refine Z06 rfl rfl rfl rfl ?_; refine Z02 ?_; refine Z01 ?_; refine T.ret ?_; obtain rfl := ret1 H; exact Z10 rfl rfl rfl rfl (Res.tmp rfl) (Z04 tk0 Z09) ⟨(some b5), ((n0.N + 1).toNat), ((n0.N + 1).toNat), ([]), rfl, rfl, c9, (Nat.le_refl _), (Z33 _ _), Z1e⟩
theorem Zdf {s0 : List Int} {s0_b : Option Addr} {s0_n : Nat} {s0_c : Nat} (w : World) (a2 : RS w [] (intC .i64) 1 s0_b s0_n s0_c s0) {r0 : List Int} (H : Z5r s0 = some r0) : Fnc Try.prog 74 #[.slice s0_b s0_n s0_c] w [] (fun v N => ∃ (a3 : Option Nat) (a4 : Nat) (a5 : Nat) (a7 : List Value), v = .slice (sb a3) a4 a5 ∧ N = [(a3, .cells (arr (intC .i64) r0 a7).toArray 3 (0, 0))] ∧ r0.length = a4 ∧ a4 ≤ a5 ∧ a7.length = (a5 - a4) * 1 ∧ (a3 = none → a5 = 0)) := by
 unfold Z5r at H; refine Fnc.enter (vs := [.slice s0_b s0_n s0_c]) Try.func74 rfl rfl (Inv.refl w) ?_; refine Z0b ?_; refine Z03 (ll := [0]) rfl ?_; refine Z06 rfl rfl rfl rfl ?_; refine Z02 ?_; refine Z01 ?_; refine Z0b ?_; refine Z0b ?_; by_cases g1 : s0_b = none
 ·
  have hx : s0 = [] := List.eq_nil_of_length_eq_zero (by rw [a2.len, a2.ro.nil g1]); have H : (some ([])) = some r0 := by
   simp only [hx] at H ⊢; first | exact H | exact (Z0d H).2 | (split at H <;> first | exact H | (split at H <;> first | exact H | exact absurd (Z0d H).1 (fun h => absurd h.2 (Int.not_lt.2 h.1))))
  refine Z03 (ll := [0, 1]) rfl ?_; refine Z05 rfl rfl rfl rfl ?_; refine Zlt rfl rfl rfl rfl rfl Z2b ?_; refine Z0u (t := 4) (b' := true) rfl (by rw [g1]; rfl) ?_; refine Z02 ?_; refine Z01 ?_; refine Z1d rfl rfl ?_; refine Z0b ?_; refine Z03 (ll := [0]) rfl ?_; refine Z06 rfl rfl rfl rfl ?_; refine Z02 ?_; refine Z01 ?_; refine T.ret ?_; refine Z0f ?_; obtain rfl := ret1 H; exact Z10 rfl rfl rfl rfl (Res.tmp rfl) (Pick.none Z09) ⟨none, 0, 0, ([]), rfl, rfl, rfl, (Nat.le_refl _), (Z33 0 _), (fun _ => rfl)⟩
 · refine Z03 (ll := [0, 1]) rfl ?_; refine Z05 rfl rfl rfl rfl ?_; refine Zlt rfl rfl rfl rfl rfl Z2b ?_; refine Z0u (t := 4) (b' := false) rfl (Option.isNone_eq_false_iff.2 (Option.isSome_iff_ne_none.2 g1)) ?_; refine Z02 ?_; refine Z01 ?_; refine Z1r rfl rfl ?_; refine T.skip ?_; refine Z01 ?_; refine Z0b ?_; obtain ⟨g4, H⟩ := Z0d H; refine Z03 (ll := [0, 1, 2, 3]) rfl ?_; refine Zer rfl rfl rfl Z2b Z25 ?_; intro b2; refine Z05 rfl rfl rfl rfl ?_; refine Zhi (f := (intC .i64)) (s := 1) (xs := ([] : List Int)) (ob := some b2) (j := ([])) (ys := s0) (fun _ => rfl) (fun _ => rfl) Zp6 g4 rfl rfl rfl rfl rfl tk0 rfl (Nat.le_refl _) (Z33 0 _) Z1e (fun wc hwc => (a2.mono hwc)) ?_; intro a8 c6 j7 a9 b0 a6; refine Z06 rfl rfl rfl rfl ?_; refine Z02 ?_; refine Z01 ?_; refine T.ret ?_; obtain rfl := ret1 H; exact Z10 rfl rfl rfl rfl (Res.tmp rfl) (Z04 tk0 Z09) ⟨a8, (0 + s0_n), c6, j7, rfl, rfl, (Zos a2.len), a9, b0, a6⟩
theorem Zea {from0 : Int} {to1 : Int} {most2 : Int} {arc3 : Int} {back4 : Bool} {c5 : List Int} {c6 : Csr} {c5_k : Nat} {c5_o : Option Nat} {c5_n : Nat} {c5_c : Nat} {c5_j : List Value} {c6_k : Nat} {c6f3_b : Option Addr} {c6f3_n : Nat} {c6f3_c : Nat} {c6f4_o : Option Nat} {c6f4_n : Nat} {c6f4_c : Nat} {c6f4_j : List Value} {c6f5_b : Option Addr} {c6f5_n : Nat} {c6f5_c : Nat} {c6f6_o : Option Nat} {c6f6_n : Nat} {c6f6_c : Nat} {c6f6_j : List Value} {c6f7_o : Option Nat} {c6f7_n : Nat} {c6f7_c : Nat} {c6f7_j : List Value} {c6f8_o : Option Nat} {c6f8_n : Nat} {c6f8_c : Nat} {c6f8_j : List Value} (w : World) (hin : Inv w (([(some c5_k, .cells #[.slice (sb c5_o) c5_n c5_c] 40 (0, 0)), (c5_o, .cells (arr (intC .i64) c5 c5_j).toArray 3 (0, 0)), (some c6_k, .cells #[.int .i64 c6.N, .int .i64 c6.S, .int .i64 c6.T, .slice c6f3_b c6f3_n c6f3_c, .slice (sb c6f4_o) c6f4_n c6f4_c, .slice c6f5_b c6f5_n c6f5_c, .slice (sb c6f6_o) c6f6_n c6f6_c, .slice (sb c6f7_o) c6f7_n c6f7_c, .slice (sb c6f8_o) c6f8_n c6f8_c] 64 (0, 0)), (c6f4_o, .cells (arr (intC .i64) c6.Head c6f4_j).toArray 3 (0, 0)), (c6f6_o, .cells (arr (intC .i64) c6.Cap c6f6_j).toArray 2 (0, 0)), (c6f7_o, .cells (arr (intC .i64) c6.Arc c6f7_j).toArray 3 (0, 0)), (c6f8_o, .cells (arr boolC c6.Back c6f8_j).toArray 4 (0, 0))] : Heap).filterMap Prod.fst) w [(some c5_k, .cells #[.slice (sb c5_o) c5_n c5_c] 40 (0, 0)), (c5_o, .cells (arr (intC .i64) c5 c5_j).toArray 3 (0, 0)), (some c6_k, .cells #[.int .i64 c6.N, .int .i64 c6.S, .int .i64 c6.T, .slice c6f3_b c6f3_n c6f3_c, .slice (sb c6f4_o) c6f4_n c6f4_c, .slice c6f5_b c6f5_n c6f5_c, .slice (sb c6f6_o) c6f6_n c6f6_c, .slice (sb c6f7_o) c6f7_n c6f7_c, .slice (sb c6f8_o) c6f8_n c6f8_c] 64 (0, 0)), (c6f4_o, .cells (arr (intC .i64) c6.Head c6f4_j).toArray 3 (0, 0)), (c6f6_o, .cells (arr (intC .i64) c6.Cap c6f6_j).toArray 2 (0, 0)), (c6f7_o, .cells (arr (intC .i64) c6.Arc c6f7_j).toArray 3 (0, 0)), (c6f8_o, .cells (arr boolC c6.Back c6f8_j).toArray 4 (0, 0))]) (h_c5_l : c5.length = c5_n) (h_c5_c : c5_n ≤ c5_c) (h_c5_j : c5_j.length = (c5_c - c5_n) * 1) (h_c5_z : (c5_o = none → c5_c = 0)) (h_c6f3 : RS w (([(some c5_k, .cells #[.slice (sb c5_o) c5_n c5_c] 40 (0, 0)), (c5_o, .cells (arr (intC .i64) c5 c5_j).toArray 3 (0, 0)), (some c6_k, .cells #[.int .i64 c6.N, .int .i64 c6.S, .int .i64 c6.T, .slice c6f3_b c6f3_n c6f3_c, .slice (sb c6f4_o) c6f4_n c6f4_c, .slice c6f5_b c6f5_n c6f5_c, .slice (sb c6f6_o) c6f6_n c6f6_c, .slice (sb c6f7_o) c6f7_n c6f7_c, .slice (sb c6f8_o) c6f8_n c6f8_c] 64 (0, 0)), (c6f4_o, .cells (arr (intC .i64) c6.Head c6f4_j).toArray 3 (0, 0)), (c6f6_o, .cells (arr (intC .i64) c6.Cap c6f6_j).toArray 2 (0, 0)), (c6f7_o, .cells (arr (intC .i64) c6.Arc c6f7_j).toArray 3 (0, 0)), (c6f8_o, .cells (arr boolC c6.Back c6f8_j).toArray 4 (0, 0))] : Heap).filterMap Prod.fst) (intC .i64) 1 c6f3_b c6f3_n c6f3_c c6.First) (h_c6f4_l : c6.Head.length = c6f4_n) (h_c6f4_c : c6f4_n ≤ c6f4_c) (h_c6f4_j : c6f4_j.length = (c6f4_c - c6f4_n) * 1) (h_c6f4_z : (c6f4_o = none → c6f4_c = 0)) (h_c6f5 : RS w (([(some c5_k, .cells #[.slice (sb c5_o) c5_n c5_c] 40 (0, 0)), (c5_o, .cells (arr (intC .i64) c5 c5_j).toArray 3 (0, 0)), (some c6_k, .cells #[.int .i64 c6.N, .int .i64 c6.S, .int .i64 c6.T, .slice c6f3_b c6f3_n c6f3_c, .slice (sb c6f4_o) c6f4_n c6f4_c, .slice c6f5_b c6f5_n c6f5_c, .slice (sb c6f6_o) c6f6_n c6f6_c, .slice (sb c6f7_o) c6f7_n c6f7_c, .slice (sb c6f8_o) c6f8_n c6f8_c] 64 (0, 0)), (c6f4_o, .cells (arr (intC .i64) c6.Head c6f4_j).toArray 3 (0, 0)), (c6f6_o, .cells (arr (intC .i64) c6.Cap c6f6_j).toArray 2 (0, 0)), (c6f7_o, .cells (arr (intC .i64) c6.Arc c6f7_j).toArray 3 (0, 0)), (c6f8_o, .cells (arr boolC c6.Back c6f8_j).toArray 4 (0, 0))] : Heap).filterMap Prod.fst) (intC .i64) 1 c6f5_b c6f5_n c6f5_c c6.Rev) (h_c6f6_l : c6.Cap.length = c6f6_n) (h_c6f6_c : c6f6_n ≤ c6f6_c) (h_c6f6_j : c6f6_j.length = (c6f6_c - c6f6_n) * 1) (h_c6f6_z : (c6f6_o = none → c6f6_c = 0)) (h_c6f7_l : c6.Arc.length = c6f7_n) (h_c6f7_c : c6f7_n ≤ c6f7_c) (h_c6f7_j : c6f7_j.length = (c6f7_c - c6f7_n) * 1) (h_c6f7_z : (c6f7_o = none → c6f7_c = 0)) (h_c6f8_l : c6.Back.length = c6f8_n) (h_c6f8_c : c6f8_n ≤ c6f8_c) (h_c6f8_j : c6f8_j.length = (c6f8_c - c6f8_n) * 1) (h_c6f8_z : (c6f8_o = none → c6f8_c = 0)) {r0 : Int} {o0 : List Int} {o1 : Csr} (H : Z8f from0 to1 most2 arc3 back4 c5 c6 = some (r0, o0, o1)) : Fnc Try.prog 75 #[.int .i64 from0, .int .i64 to1, .int .i64 most2, .int .i64 arc3, .bool back4, .pointer (some ⟨c5_k, 0, none⟩), .pointer (some ⟨c6_k, 0, none⟩)] w (([(some c5_k, .cells #[.slice (sb c5_o) c5_n c5_c] 40 (0, 0)), (c5_o, .cells (arr (intC .i64) c5 c5_j).toArray 3 (0, 0)), (some c6_k, .cells #[.int .i64 c6.N, .int .i64 c6.S, .int .i64 c6.T, .slice c6f3_b c6f3_n c6f3_c, .slice (sb c6f4_o) c6f4_n c6f4_c, .slice c6f5_b c6f5_n c6f5_c, .slice (sb c6f6_o) c6f6_n c6f6_c, .slice (sb c6f7_o) c6f7_n c6f7_c, .slice (sb c6f8_o) c6f8_n c6f8_c] 64 (0, 0)), (c6f4_o, .cells (arr (intC .i64) c6.Head c6f4_j).toArray 3 (0, 0)), (c6f6_o, .cells (arr (intC .i64) c6.Cap c6f6_j).toArray 2 (0, 0)), (c6f7_o, .cells (arr (intC .i64) c6.Arc c6f7_j).toArray 3 (0, 0)), (c6f8_o, .cells (arr boolC c6.Back c6f8_j).toArray 4 (0, 0))] : Heap).filterMap Prod.fst) (fun v N => v = .int .i64 r0 ∧ N = [(some c5_k, .cells #[.slice (sb c5_o) c5_n c5_c] 40 (0, 0)), (c5_o, .cells (arr (intC .i64) o0 c5_j).toArray 3 (0, 0)), (some c6_k, .cells #[.int .i64 c6.N, .int .i64 c6.S, .int .i64 c6.T, .slice c6f3_b c6f3_n c6f3_c, .slice (sb c6f4_o) c6f4_n c6f4_c, .slice c6f5_b c6f5_n c6f5_c, .slice (sb c6f6_o) c6f6_n c6f6_c, .slice (sb c6f7_o) c6f7_n c6f7_c, .slice (sb c6f8_o) c6f8_n c6f8_c] 64 (0, 0)), (c6f4_o, .cells (arr (intC .i64) o1.Head c6f4_j).toArray 3 (0, 0)), (c6f6_o, .cells (arr (intC .i64) o1.Cap c6f6_j).toArray 2 (0, 0)), (c6f7_o, .cells (arr (intC .i64) o1.Arc c6f7_j).toArray 3 (0, 0)), (c6f8_o, .cells (arr boolC o1.Back c6f8_j).toArray 4 (0, 0))] ∧ o0.length = c5_n ∧ o1.Head.length = c6f4_n ∧ o1.Cap.length = c6f6_n ∧ o1.Arc.length = c6f7_n ∧ o1.Back.length = c6f8_n) := by
 unfold Z8f at H; refine Fnc.enter (vs := [.int .i64 from0, .int .i64 to1, .int .i64 most2, .int .i64 arc3, .bool back4, .pointer (some ⟨c5_k, 0, none⟩), .pointer (some ⟨c6_k, 0, none⟩)]) Try.func75 rfl rfl hin ?_; refine Z0b ?_; refine Z03 (ll := [0]) rfl ?_; refine Z06 rfl rfl rfl rfl ?_; refine Z02 ?_; refine Z01 ?_; refine Z0b ?_; obtain ⟨g8, H⟩ := Z0d H; refine Z03 (ll := [0, 1, 2, 3, 4]) rfl ?_; refine Z0e rfl rfl rfl rfl Z7l mm0 rfl ?_; refine Z05 rfl rfl rfl rfl ?_; refine Z4u h_c5_z h_c5_c h_c5_l g8 rfl rfl rfl rfl rfl Z2b Z25 ?_; refine Z71 h_c5_z h_c5_c h_c5_l g8 rfl rfl rfl rfl Z17 mm1 ?_; refine Z06 rfl rfl rfl rfl ?_; refine Z02 ?_; refine Z01 ?_; refine Z0b ?_; obtain ⟨g9, H⟩ := Z0d H; obtain ⟨f8, H⟩ := Z0d H; obtain ⟨f3, H⟩ := Z0d H; refine Z03 (ll := [0, 1, 2, 3, 4, 5, 6]) rfl ?_; refine Z0e rfl rfl rfl rfl Z7l mm0 rfl ?_; refine Z05 rfl rfl rfl rfl ?_; refine Z4u h_c5_z h_c5_c h_c5_l g9 rfl rfl rfl rfl rfl Z2b Z25 ?_; refine Z71 h_c5_z h_c5_c h_c5_l g9 rfl rfl rfl rfl Z17 mm1 ?_; refine Z18 f8 rfl rfl rfl rfl rfl ?_; refine Z4u h_c5_z h_c5_c h_c5_l f3 rfl rfl rfl rfl rfl Z2b Z25 ?_; refine Zc6 h_c5_z h_c5_c h_c5_l f3 rfl rfl rfl rfl tk1 Z25 ?_; refine Z02 ?_; refine Z01 ?_; refine Z0k (Z00 (t := 1) rfl (Z00 (t := 2) rfl (Z00 (t := 3) rfl (Z00 (t := 4) rfl (Z00 (t := 6) rfl (Z00 (t := 13) rfl Z08)))))) ?_; refine Z0b ?_; obtain ⟨f4, H⟩ := Z0d H; obtain ⟨f5, H⟩ := Z0d H; obtain ⟨f6, H⟩ := Z0d H; obtain ⟨f7, H⟩ := Z0d H; apply Zdc [⟨[], false, [], Z5v _⟩, ⟨[0], false, [], Z5v _⟩, ⟨[], false, [], Z5v _⟩, ⟨[], false, [], Z5v _⟩, ⟨[3], false, [], Z5v _⟩, ⟨[], false, [], Z5v _⟩, ⟨[], false, [], Z5v _⟩, ⟨[6], false, [], Z5v _⟩, ⟨[], false, [], Z5v _⟩, ⟨[], false, [], Z5v _⟩, ⟨[9], false, [], Z5v _⟩, ⟨[], false, [], Z5v _⟩, ⟨[], false, [], Z5v _⟩, ⟨[], false, [], Z5v _⟩, ⟨[], false, [], Z5v _⟩, ⟨[], false, [], Z5v _⟩, ⟨[1, 2], false, [], Z5v _⟩, ⟨[1, 2, 12, 16], true, [], relN⟩, ⟨[4, 5], false, [], Z5v _⟩, ⟨[4, 5, 13, 18], true, [], relN⟩, ⟨[7, 8], false, [], Z5v _⟩, ⟨[7, 8, 14, 20], true, [], relN⟩] [24, 25, 26, 27, 28, 29, 30, 31, 32, 33, 34, 35, 36, 37, 38, 39, 40, 41, 42] 22 (HRk [[(c6f4_o, .cells (arr (intC .i64) c6.Head c6f4_j).toArray 3 (0, 0)), (c6f6_o, .cells (arr (intC .i64) c6.Cap c6f6_j).toArray 2 (0, 0)), (c6f7_o, .cells (arr (intC .i64) c6.Arc c6f7_j).toArray 3 (0, 0))], [(c6f4_o, .cells (arr (intC .i64) (c6.Head.set (c5.getD from0.toNat 0).toNat to1) c6f4_j).toArray 3 (0, 0)), (c6f6_o, .cells (arr (intC .i64) c6.Cap c6f6_j).toArray 2 (0, 0)), (c6f7_o, .cells (arr (intC .i64) c6.Arc c6f7_j).toArray 3 (0, 0))], [(c6f4_o, .cells (arr (intC .i64) (c6.Head.set (c5.getD from0.toNat 0).toNat to1) c6f4_j).toArray 3 (0, 0)), (c6f6_o, .cells (arr (intC .i64) (c6.Cap.set (c5.getD from0.toNat 0).toNat most2) c6f6_j).toArray 2 (0, 0)), (c6f7_o, .cells (arr (intC .i64) c6.Arc c6f7_j).toArray 3 (0, 0))], [(c6f4_o, .cells (arr (intC .i64) (c6.Head.set (c5.getD from0.toNat 0).toNat to1) c6f4_j).toArray 3 (0, 0)), (c6f6_o, .cells (arr (intC .i64) (c6.Cap.set (c5.getD from0.toNat 0).toNat most2) c6f6_j).toArray 2 (0, 0)), (c6f7_o, .cells (arr (intC .i64) (c6.Arc.set (c5.getD from0.toNat 0).toNat arc3) c6f7_j).toArray 3 (0, 0))]]) [[], [], [], []] [(c6f4_o, .cells (arr (intC .i64) c6.Head c6f4_j).toArray 3 (0, 0)), (c6f6_o, .cells (arr (intC .i64) c6.Cap c6f6_j).toArray 2 (0, 0)), (c6f7_o, .cells (arr (intC .i64) c6.Arc c6f7_j).toArray 3 (0, 0))] [(c5_o, .cells (arr (intC .i64) (c5.set from0.toNat ((c5.getD from0.toNat 0) + 1)) c5_j).toArray 3 (0, 0)), (some c5_k, .cells #[.slice (sb c5_o) c5_n c5_c] 40 (0, 0)), (some c6_k, .cells #[.int .i64 c6.N, .int .i64 c6.S, .int .i64 c6.T, .slice c6f3_b c6f3_n c6f3_c, .slice (sb c6f4_o) c6f4_n c6f4_c, .slice c6f5_b c6f5_n c6f5_c, .slice (sb c6f6_o) c6f6_n c6f6_c, .slice (sb c6f7_o) c6f7_n c6f7_c, .slice (sb c6f8_o) c6f8_n c6f8_c] 64 (0, 0)), (c6f8_o, .cells (arr boolC c6.Back c6f8_j).toArray 4 (0, 0))]
 · exact Z4y
 · exact rfl
 · kernel_rfl
 · kernel_rfl
 · kernel_rfl
 · exact rfl
 · exact rfl
 · exact rfl
 · exact rfl
 · exact (by repeat (first | exact Z0a _ | exact Z09 | apply Pick.none | refine Z04 (by repeat (first | exact Take.head _ _ | apply Take.tail)) ?_))
 ·
  refine ⟨?_, ?_, ?_, ?_, ?_, ?_, ?_, ?_, ?_, ?_, ?_, ?_, ?_, ?_, ?_, ?_, ?_, ?_, ?_, ?_, ?_, ?_, trivial⟩
  · rintro vs es Es Hx -; refine Z0m (D := []) rfl ?_; refine Z07 rfl rfl rfl rfl Zd8 ?_; refine Z02 ?_; exact Z1t rfl ⟨rfl, rfl⟩ (Z0a _) rfl
  · rintro vs es Es Hx ⟨⟨c8, e8⟩, -⟩; refine Z0m (D := [(24, vs 0)]) rfl ?_; rw [c8]; refine Z0e rfl rfl rfl rfl Z7l mm2 rfl ?_; refine Z02 ?_; exact Z1t rfl ⟨rfl, rfl⟩ (Z0a _) (by show [(24, vs 0)] = _; rw [c8])
  · rintro vs es Es Hx -; refine Z0m (D := []) rfl ?_; refine Z05 rfl rfl rfl rfl ?_; refine Z02 ?_; exact Z1t rfl ⟨rfl, rfl⟩ (Z0a _) rfl
  · rintro vs es Es Hx -; refine Z0m (D := []) rfl ?_; refine Z07 rfl rfl rfl rfl Zfy ?_; refine Z02 ?_; exact Z1t rfl ⟨rfl, rfl⟩ (Z0a _) rfl
  · rintro vs es Es Hx ⟨⟨c9, e9⟩, -⟩; refine Z0m (D := [(27, vs 3)]) rfl ?_; rw [c9]; refine Z0e rfl rfl rfl rfl Zpj mm2 rfl ?_; refine Z02 ?_; exact Z1t rfl ⟨rfl, rfl⟩ (Z0a _) (by show [(27, vs 3)] = _; rw [c9])
  · rintro vs es Es Hx -; refine Z0m (D := []) rfl ?_; refine Z05 rfl rfl rfl rfl ?_; refine Z02 ?_; exact Z1t rfl ⟨rfl, rfl⟩ (Z0a _) rfl
  · rintro vs es Es Hx -; refine Z0m (D := []) rfl ?_; refine Z07 rfl rfl rfl rfl Zfx ?_; refine Z02 ?_; exact Z1t rfl ⟨rfl, rfl⟩ (Z0a _) rfl
  · rintro vs es Es Hx ⟨⟨d0, f0⟩, -⟩; refine Z0m (D := [(30, vs 6)]) rfl ?_; rw [d0]; refine Z0e rfl rfl rfl rfl Z7l mm2 rfl ?_; refine Z02 ?_; exact Z1t rfl ⟨rfl, rfl⟩ (Z0a _) (by show [(30, vs 6)] = _; rw [d0])
  · rintro vs es Es Hx -; refine Z0m (D := []) rfl ?_; refine Z05 rfl rfl rfl rfl ?_; refine Z02 ?_; exact Z1t rfl ⟨rfl, rfl⟩ (Z0a _) rfl
  · rintro vs es Es Hx -; refine Z0m (D := []) rfl ?_; refine Z07 rfl rfl rfl rfl Zfw ?_; refine Z02 ?_; exact Z1t rfl ⟨rfl, rfl⟩ (Z0a _) rfl
  · rintro vs es Es Hx ⟨⟨d1, f2⟩, -⟩; refine Z0m (D := [(33, vs 9)]) rfl ?_; rw [d1]; refine Z0e rfl rfl rfl rfl Zpi mm2 rfl ?_; refine Z02 ?_; exact Z1t rfl ⟨rfl, rfl⟩ (Z0a _) (by show [(33, vs 9)] = _; rw [d1])
  · rintro vs es Es Hx -; refine Z0m (D := []) rfl ?_; refine Z05 rfl rfl rfl rfl ?_; refine Z02 ?_; exact Z1t rfl ⟨rfl, rfl⟩ (Z0a _) rfl
  · rintro vs es Es Hx -; refine Z0m (D := []) rfl ?_; refine Z05 rfl rfl rfl rfl ?_; refine Z02 ?_; exact Z1t rfl ⟨rfl, rfl⟩ (Z0a _) rfl
  · rintro vs es Es Hx -; refine Z0m (D := []) rfl ?_; refine Z05 rfl rfl rfl rfl ?_; refine Z02 ?_; exact Z1t rfl ⟨rfl, rfl⟩ (Z0a _) rfl
  · rintro vs es Es Hx -; refine Z0m (D := []) rfl ?_; refine Z05 rfl rfl rfl rfl ?_; refine Z02 ?_; exact Z1t rfl ⟨rfl, rfl⟩ (Z0a _) rfl
  · rintro vs es Es Hx -; refine Z0m (D := []) rfl ?_; refine Z05 rfl rfl rfl rfl ?_; refine Z02 ?_; exact Z1t rfl ⟨rfl, rfl⟩ (Z0a _) rfl
  · rintro vs es Es Hx ⟨⟨a8, e2⟩, ⟨a9, e3⟩, -⟩; refine Z0m (D := [(25, vs 1), (26, vs 2)]) rfl ?_; rw [a8, a9]; refine Z4u h_c6f4_z h_c6f4_c h_c6f4_l f4 rfl rfl rfl rfl rfl Z2b Z25 ?_; refine Z02 ?_; exact Z1t rfl ⟨rfl, rfl⟩ (Z0a _) (by show [(25, vs 1), (26, vs 2)] = _; rw [a8, a9])
  · rintro vs es Es Hx hb ⟨⟨a8, e2⟩, ⟨a9, e3⟩, ⟨a2, b7⟩, ⟨a3, b8⟩, -⟩ hHR; obtain rfl : hb = [(c6f4_o, .cells (arr (intC .i64) c6.Head c6f4_j).toArray 3 (0, 0)), (c6f6_o, .cells (arr (intC .i64) c6.Cap c6f6_j).toArray 2 (0, 0)), (c6f7_o, .cells (arr (intC .i64) c6.Arc c6f7_j).toArray 3 (0, 0))] := hHR; refine Z0m (D := [(25, vs 1), (26, vs 2), (36, vs 12), (40, vs 16)]) rfl ?_; rw [a8, a9, a2, a3]; refine Zc6 h_c6f4_z h_c6f4_c h_c6f4_l f4 rfl rfl rfl rfl tk0 Z25 ?_; refine Z02 ?_; exact Zjg (hb' := [(c6f4_o, .cells (arr (intC .i64) (c6.Head.set (c5.getD from0.toNat 0).toNat to1) c6f4_j).toArray 3 (0, 0)), (c6f6_o, .cells (arr (intC .i64) c6.Cap c6f6_j).toArray 2 (0, 0)), (c6f7_o, .cells (arr (intC .i64) c6.Arc c6f7_j).toArray 3 (0, 0))]) rfl rfl rfl (by repeat (first | exact Z0a _ | exact Z09 | apply Pick.none | refine Z04 (by repeat (first | exact Take.head _ _ | apply Take.tail)) ?_)) (by show [(25, vs 1), (26, vs 2), (36, vs 12), (40, vs 16)] = _; rw [a8, a9, a2, a3])
  · rintro vs es Es Hx ⟨⟨b0, e4⟩, ⟨b1, e5⟩, -⟩; refine Z0m (D := [(28, vs 4), (29, vs 5)]) rfl ?_; rw [b0, b1]; refine Z4u h_c6f6_z h_c6f6_c h_c6f6_l f5 rfl rfl rfl rfl rfl Zjy Zia ?_; refine Z02 ?_; exact Z1t rfl ⟨rfl, rfl⟩ (Z0a _) (by show [(28, vs 4), (29, vs 5)] = _; rw [b0, b1])
  · rintro vs es Es Hx hb ⟨⟨b0, e4⟩, ⟨b1, e5⟩, ⟨a4, b9⟩, ⟨a5, c3⟩, -⟩ hHR; obtain rfl : hb = [(c6f4_o, .cells (arr (intC .i64) (c6.Head.set (c5.getD from0.toNat 0).toNat to1) c6f4_j).toArray 3 (0, 0)), (c6f6_o, .cells (arr (intC .i64) c6.Cap c6f6_j).toArray 2 (0, 0)), (c6f7_o, .cells (arr (intC .i64) c6.Arc c6f7_j).toArray 3 (0, 0))] := hHR; refine Z0m (D := [(28, vs 4), (29, vs 5), (37, vs 13), (41, vs 18)]) rfl ?_; rw [b0, b1, a4, a5]; refine Zc6 h_c6f6_z h_c6f6_c h_c6f6_l f5 rfl rfl rfl rfl tk1 Zia ?_; refine Z02 ?_; exact Zjg (hb' := [(c6f4_o, .cells (arr (intC .i64) (c6.Head.set (c5.getD from0.toNat 0).toNat to1) c6f4_j).toArray 3 (0, 0)), (c6f6_o, .cells (arr (intC .i64) (c6.Cap.set (c5.getD from0.toNat 0).toNat most2) c6f6_j).toArray 2 (0, 0)), (c6f7_o, .cells (arr (intC .i64) c6.Arc c6f7_j).toArray 3 (0, 0))]) rfl rfl rfl (by repeat (first | exact Z0a _ | exact Z09 | apply Pick.none | refine Z04 (by repeat (first | exact Take.head _ _ | apply Take.tail)) ?_)) (by show [(28, vs 4), (29, vs 5), (37, vs 13), (41, vs 18)] = _; rw [b0, b1, a4, a5])
  · rintro vs es Es Hx ⟨⟨b5, e6⟩, ⟨b6, e7⟩, -⟩; refine Z0m (D := [(31, vs 7), (32, vs 8)]) rfl ?_; rw [b5, b6]; refine Z4u h_c6f7_z h_c6f7_c h_c6f7_l f6 rfl rfl rfl rfl rfl Z2b Z25 ?_; refine Z02 ?_; exact Z1t rfl ⟨rfl, rfl⟩ (Z0a _) (by show [(31, vs 7), (32, vs 8)] = _; rw [b5, b6])
  · rintro vs es Es Hx hb ⟨⟨b5, e6⟩, ⟨b6, e7⟩, ⟨a6, c4⟩, ⟨a7, c7⟩, -⟩ hHR; obtain rfl : hb = [(c6f4_o, .cells (arr (intC .i64) (c6.Head.set (c5.getD from0.toNat 0).toNat to1) c6f4_j).toArray 3 (0, 0)), (c6f6_o, .cells (arr (intC .i64) (c6.Cap.set (c5.getD from0.toNat 0).toNat most2) c6f6_j).toArray 2 (0, 0)), (c6f7_o, .cells (arr (intC .i64) c6.Arc c6f7_j).toArray 3 (0, 0))] := hHR; refine Z0m (D := [(31, vs 7), (32, vs 8), (38, vs 14), (42, vs 20)]) rfl ?_; rw [b5, b6, a6, a7]; refine Zc6 h_c6f7_z h_c6f7_c h_c6f7_l f6 rfl rfl rfl rfl tk2 Z25 ?_; refine Z02 ?_; exact Zjg (hb' := [(c6f4_o, .cells (arr (intC .i64) (c6.Head.set (c5.getD from0.toNat 0).toNat to1) c6f4_j).toArray 3 (0, 0)), (c6f6_o, .cells (arr (intC .i64) (c6.Cap.set (c5.getD from0.toNat 0).toNat most2) c6f6_j).toArray 2 (0, 0)), (c6f7_o, .cells (arr (intC .i64) (c6.Arc.set (c5.getD from0.toNat 0).toNat arc3) c6f7_j).toArray 3 (0, 0))]) rfl rfl rfl (by repeat (first | exact Z0a _ | exact Z09 | apply Pick.none | refine Z04 (by repeat (first | exact Take.head _ _ | apply Take.tail)) ?_)) (by show [(31, vs 7), (32, vs 8), (38, vs 14), (42, vs 20)] = _; rw [b5, b6, a6, a7])
 · rintro vs es hb ⟨⟨c8, e8⟩, ⟨a8, e2⟩, ⟨a9, e3⟩, ⟨c9, e9⟩, ⟨b0, e4⟩, ⟨b1, e5⟩, ⟨d0, f0⟩, ⟨b5, e6⟩, ⟨b6, e7⟩, ⟨d1, f2⟩, ⟨d3, d4⟩, ⟨d5, d6⟩, ⟨a2, b7⟩, ⟨a4, b9⟩, ⟨a6, c4⟩, ⟨d7, d8⟩, ⟨a3, b8⟩, d9, ⟨a5, c3⟩, e0, ⟨a7, c7⟩, e1, -⟩ hHR; obtain rfl : hb = [(c6f4_o, .cells (arr (intC .i64) (c6.Head.set (c5.getD from0.toNat 0).toNat to1) c6f4_j).toArray 3 (0, 0)), (c6f6_o, .cells (arr (intC .i64) (c6.Cap.set (c5.getD from0.toNat 0).toNat most2) c6f6_j).toArray 2 (0, 0)), (c6f7_o, .cells (arr (intC .i64) (c6.Arc.set (c5.getD from0.toNat 0).toNat arc3) c6f7_j).toArray 3 (0, 0))] := hHR; refine Z0m (D := [(24, vs 0), (25, vs 1), (26, vs 2), (27, vs 3), (28, vs 4), (29, vs 5), (30, vs 6), (31, vs 7), (32, vs 8), (33, vs 9), (34, vs 10), (35, vs 11), (36, vs 12), (37, vs 13), (38, vs 14), (39, vs 15), (40, vs 16), (41, vs 18), (42, vs 20)]) rfl ?_; refine Z2z (H := [(c6f4_o, .cells (arr (intC .i64) (c6.Head.set (c5.getD from0.toNat 0).toNat to1) c6f4_j).toArray 3 (0, 0)), (c6f6_o, .cells (arr (intC .i64) (c6.Cap.set (c5.getD from0.toNat 0).toNat most2) c6f6_j).toArray 2 (0, 0)), (c6f7_o, .cells (arr (intC .i64) (c6.Arc.set (c5.getD from0.toNat 0).toNat arc3) c6f7_j).toArray 3 (0, 0)), (c5_o, .cells (arr (intC .i64) (c5.set from0.toNat ((c5.getD from0.toNat 0) + 1)) c5_j).toArray 3 (0, 0)), (some c5_k, .cells #[.slice (sb c5_o) c5_n c5_c] 40 (0, 0)), (some c6_k, .cells #[.int .i64 c6.N, .int .i64 c6.S, .int .i64 c6.T, .slice c6f3_b c6f3_n c6f3_c, .slice (sb c6f4_o) c6f4_n c6f4_c, .slice c6f5_b c6f5_n c6f5_c, .slice (sb c6f6_o) c6f6_n c6f6_c, .slice (sb c6f7_o) c6f7_n c6f7_c, .slice (sb c6f8_o) c6f8_n c6f8_c] 64 (0, 0)), (c6f8_o, .cells (arr boolC c6.Back c6f8_j).toArray 4 (0, 0))]) (by show _ ++ (_ ++ (es 0 ++ (es 1 ++ (es 2 ++ (es 3 ++ (es 4 ++ (es 5 ++ (es 6 ++ (es 7 ++ (es 8 ++ (es 9 ++ (es 10 ++ (es 11 ++ (es 12 ++ (es 13 ++ (es 14 ++ (es 15 ++ (es 16 ++ (es 17 ++ (es 18 ++ (es 19 ++ (es 20 ++ (es 21 ++ ([])))))))))))))))))))))))) = _; rw [e8, e2, e3, e9, e4, e5, f0, e6, e7, f2, d4, d6, b7, b9, c4, d8, b8, d9, c3, e0, c7, e1]; rfl) ?_; rw [c8, a8, a9, c9, b0, b1, d0, b5, b6, d1, d3, d5, a2, a4, a6, d7, a3, a5, a7]; clear a7 a5 a3 d7 a6 a4 a2 d5 d3 d1 b6 b5 d0 b1 b0 c9 a9 a8 c8 e8 e2 e3 e9 e4 e5 f0 e6 e7 f2 d4 d6 b7 b9 c4 d8 b8 d9 c3 e0 c7 e1; refine Z4u h_c6f8_z h_c6f8_c h_c6f8_l f7 rfl rfl rfl rfl rfl Zjx Zi9 ?_; refine Zl0 h_c6f8_z h_c6f8_c h_c6f8_l f7 rfl rfl rfl rfl tk6 Zi9 ?_; refine Z02 ?_; refine Z01 ?_; refine Z0k (Z00 (t := 13) rfl Z08) ?_; refine Z0b ?_; refine Z03 (ll := [0, 1]) rfl ?_; refine Z05 rfl rfl rfl rfl ?_; refine Z06 rfl rfl rfl rfl ?_; refine Z02 ?_; refine Z01 ?_; refine T.ret ?_; obtain ⟨rfl, rfl, rfl⟩ := ret3 H; exact Z10 rfl rfl rfl rfl (Res.tmp rfl) (Z04 tk5 (Z04 tk4 (Z04 tk4 (Z04 tk1 (Z04 tk1 (Z04 tk1 (Z04 tk0 Z09))))))) ⟨rfl, rfl, (List.length_set.trans h_c5_l), (List.length_set.trans h_c6f4_l), (List.length_set.trans h_c6f6_l), (List.length_set.trans h_c6f7_l), (List.length_set.trans h_c6f8_l)⟩
theorem Zgj {n0 : Net} {n0f3_b : Option Addr} {n0f3_n : Nat} {n0f3_c : Nat} (w : World) (h_n0f3 : RS w [] Z4g 3 n0f3_b n0f3_n n0f3_c n0.Arcs) {r0 : Csr} {r1 : Int} (H : Z90 n0 = some (r0, r1)) : Fnc Try.prog 42 #[.agg #[.int .i64 n0.N, .int .i64 n0.S, .int .i64 n0.T, .slice n0f3_b n0f3_n n0f3_c]] w [] (fun v N => ∃ (i1 : Option Nat) (k5 : Nat) (k6 : Nat) (o0 : List Value) (i2 : Option Nat) (k7 : Nat) (k8 : Nat) (o1 : List Value) (i4 : Option Nat) (k9 : Nat) (l0 : Nat) (o2 : List Value) (f6 : Option Nat) (h2 : Nat) (h3 : Nat) (j2 : List Value) (f7 : Option Nat) (h4 : Nat) (h5 : Nat) (j3 : List Value) (f8 : Option Nat) (h6 : Nat) (h7 : Nat) (j4 : List Value), v = .tuple #[.agg #[.int .i64 r0.N, .int .i64 r0.S, .int .i64 r0.T, .slice (sb i1) k5 k6, .slice (sb i2) k7 k8, .slice (sb i4) k9 l0, .slice (sb f6) h2 h3, .slice (sb f7) h4 h5, .slice (sb f8) h6 h7], .int .i64 r1] ∧ N = [(i1, .cells (arr (intC .i64) r0.First o0).toArray 3 (0, 0)), (i2, .cells (arr (intC .i64) r0.Head o1).toArray 3 (0, 0)), (i4, .cells (arr (intC .i64) r0.Rev o2).toArray 3 (0, 0)), (f6, .cells (arr (intC .i64) r0.Cap j2).toArray 2 (0, 0)), (f7, .cells (arr (intC .i64) r0.Arc j3).toArray 3 (0, 0)), (f8, .cells (arr boolC r0.Back j4).toArray 4 (0, 0))] ∧ r0.First.length = k5 ∧ k5 ≤ k6 ∧ o0.length = (k6 - k5) * 1 ∧ (i1 = none → k6 = 0) ∧ r0.Head.length = k7 ∧ k7 ≤ k8 ∧ o1.length = (k8 - k7) * 1 ∧ (i2 = none → k8 = 0) ∧ r0.Rev.length = k9 ∧ k9 ≤ l0 ∧ o2.length = (l0 - k9) * 1 ∧ (i4 = none → l0 = 0) ∧ r0.Cap.length = h2 ∧ h2 ≤ h3 ∧ j2.length = (h3 - h2) * 1 ∧ (f6 = none → h3 = 0) ∧ r0.Arc.length = h4 ∧ h4 ≤ h5 ∧ j3.length = (h5 - h4) * 1 ∧ (f7 = none → h5 = 0) ∧ r0.Back.length = h6 ∧ h6 ≤ h7 ∧ j4.length = (h7 - h6) * 1 ∧ (f8 = none → h7 = 0)) := by
 unfold Z90 at H; refine Fnc.enter (vs := [.agg #[.int .i64 n0.N, .int .i64 n0.S, .int .i64 n0.T, .slice n0f3_b n0f3_n n0f3_c]]) Try.func42 rfl rfl (Inv.refl w) ?_; refine Z0b ?_; refine Z03 (ll := [0, 1, 2]) rfl ?_; refine Z1p rfl rfl rfl rfl ?_; intro b1; refine Z1i rfl rfl rfl Zju ?_; intro b3; refine Z06 rfl rfl rfl rfl ?_; refine Z02 ?_; refine Z01 ?_; refine Z0b ?_; refine Z0b ?_; obtain ⟨r5, e6, H⟩ := Z0l H; refine Z03 (ll := [0, 1, 2]) rfl ?_; refine Z0q rfl rfl rfl rfl Z2u mm1 rfl ?_; refine Z0n Zpp rfl rfl rfl rfl (fun wc hwc => Z5w (n0 := n0) wc (h_n0f3.mono hwc) e6) ?_; rintro _ _ ⟨rfl, rfl⟩; refine Z06 rfl rfl rfl rfl ?_; refine Z02 ?_; refine Z01 ?_; refine Z0b ?_; refine Z03 (ll := [0, 1]) rfl ?_; refine Z05 rfl rfl rfl rfl ?_; refine Z0r rfl rfl rfl rfl rfl rfl ?_; refine Z02 ?_; refine Z01 ?_; rcases Z0g H with ⟨g7, H⟩ | ⟨g7, H⟩
 · refine Z14 rfl g7 ?_; refine Z0b ?_; refine Z03 (ll := [0, 1, 2, 3]) rfl ?_; refine Z2l (t := 64) [.int .i64 0, .int .i64 0, .int .i64 0, .slice none 0 0, .slice none 0 0, .slice none 0 0, .slice none 0 0, .slice none 0 0, .slice none 0 0] [0, 1, 2, 3, 4, 5, 6, 7, 8] rfl rfl rfl rfl (by simp only [Z1m, setCells, Value.cells, List.toList_toArray, List.getD_cons_zero, List.getD_cons_succ, List.set_cons_zero, List.set_cons_succ]; rfl) (by kernel_rfl) ?_; refine Z05 rfl rfl rfl rfl ?_; refine Z1b rfl rfl rfl rfl tk0 Zfv rfl rfl rfl ?_; refine Z06 rfl rfl rfl rfl ?_; refine Z02 ?_; refine Z01 ?_; refine Z0k (Z00 (t := 2) rfl (Z00 (t := 3) rfl Z08)) ?_; refine T.ret ?_; refine Z0f ?_; obtain ⟨rfl, rfl⟩ := ret2 H; exact Z59 rfl rfl rfl rfl (Z9j rfl Zg0 mm0 rfl) (Res.tmp rfl) (Pick.none (Pick.none (Pick.none (Pick.none (Pick.none (Pick.none Z09)))))) ⟨none, 0, 0, ([]), none, 0, 0, ([]), none, 0, 0, ([]), none, 0, 0, ([]), none, 0, 0, ([]), none, 0, 0, ([]), rfl, rfl, rfl, (Nat.le_refl _), (Z33 0 _), (fun _ => rfl), rfl, (Nat.le_refl _), (Z33 0 _), (fun _ => rfl), rfl, (Nat.le_refl _), (Z33 0 _), (fun _ => rfl), rfl, (Nat.le_refl _), (Z33 0 _), (fun _ => rfl), rfl, (Nat.le_refl _), (Z33 0 _), (fun _ => rfl), rfl, (Nat.le_refl _), (Z33 0 _), (fun _ => rfl)⟩
 ·
  refine Z15 rfl g7 ?_; refine T.skip ?_; refine Z01 ?_; refine Z0b ?_; obtain ⟨r8, e9, H⟩ := Z0l H; apply Zdc [⟨[], false, [], Z5v _⟩, ⟨[0], false, [], Z5v _⟩, ⟨[], false, [], Z5v _⟩, ⟨[2], false, [], Z5v _⟩, ⟨[], false, [], Z5v _⟩, ⟨[4], false, [], Z5v _⟩, ⟨[], false, [], Z5v _⟩, ⟨[6], false, [], fun _ v e => ∃ (a2 : Option Nat) (a4 : Nat) (a5 : Nat) (b7 : List Value), v = .slice (sb a2) a4 a5 ∧ e = [(a2, .cells (arr (intC .i64) r8 b7).toArray 3 (0, 0))] ∧ r8.length = a4 ∧ a4 ≤ a5 ∧ b7.length = (a5 - a4) * 1 ∧ (a2 = none → a5 = 0)⟩, ⟨[1, 3, 5, 7], false, [], fun vl v e => v = (Value.agg #[.int .i64 n0.N, .int .i64 n0.S, .int .i64 n0.T, (vl.getD 3 undef), .slice none 0 0, .slice none 0 0, .slice none 0 0, .slice none 0 0, .slice none 0 0]) ∧ e = []⟩, ⟨[], false, [], fun _ v e => ∃ (a6 : Nat), v = .pointer (some ⟨a6, 0, none⟩) ∧ e = [(some a6, .cells #[.int .i64 0, .int .i64 0, .int .i64 0, .slice none 0 0, .slice none 0 0, .slice none 0 0, .slice none 0 0, .slice none 0 0, .slice none 0 0] 64 (0, 0))]⟩] [19, 20, 21, 22, 23, 24, 25, 26, 27, 5] 10 (HRk [[]]) [[]] [] [(some b3, .cells #[.int .i64 0, .int .i64 0, .int .i64 0, .slice none 0 0, .slice none 0 0, .slice none 0 0, .slice none 0 0, .slice none 0 0, .slice none 0 0] 64 (0, 0)), (some b1, .cells #[.int .i64 n0.N, .int .i64 n0.S, .int .i64 n0.T, .slice n0f3_b n0f3_n n0f3_c] 24 (0, 0))]
  · exact Z4y
  · exact rfl
  · kernel_rfl
  · kernel_rfl
  · kernel_rfl
  · exact rfl
  · exact rfl
  · exact rfl
  · exact rfl
  · exact (by repeat (first | exact Z0a _ | exact Z09 | apply Pick.none | refine Z04 (by repeat (first | exact Take.head _ _ | apply Take.tail)) ?_))
  ·
   refine ⟨?_, ?_, ?_, ?_, ?_, ?_, ?_, ?_, ?_, ?_, trivial⟩
   · rintro vs es Es Hx -; refine Z0m (D := []) rfl ?_; refine Z07 rfl rfl rfl rfl Z38 ?_; refine Z02 ?_; exact Z1t rfl ⟨rfl, rfl⟩ (Z0a _) rfl
   · rintro vs es Es Hx ⟨⟨d4, f9⟩, -⟩; refine Z0m (D := [(19, vs 0)]) rfl ?_; rw [d4]; refine Z0e rfl rfl rfl rfl Z17 mm1 rfl ?_; refine Z02 ?_; exact Z1t rfl ⟨rfl, rfl⟩ (Z0a _) (by show [(19, vs 0)] = _; rw [d4])
   · rintro vs es Es Hx -; refine Z0m (D := []) rfl ?_; refine Z07 rfl rfl rfl rfl Z5g ?_; refine Z02 ?_; exact Z1t rfl ⟨rfl, rfl⟩ (Z0a _) rfl
   · rintro vs es Es Hx ⟨⟨b9, f4⟩, -⟩; refine Z0m (D := [(21, vs 2)]) rfl ?_; rw [b9]; refine Z0e rfl rfl rfl rfl Z17 mm1 rfl ?_; refine Z02 ?_; exact Z1t rfl ⟨rfl, rfl⟩ (Z0a _) (by show [(21, vs 2)] = _; rw [b9])
   · rintro vs es Es Hx -; refine Z0m (D := []) rfl ?_; refine Z07 rfl rfl rfl rfl Z65 ?_; refine Z02 ?_; exact Z1t rfl ⟨rfl, rfl⟩ (Z0a _) rfl
   · rintro vs es Es Hx ⟨⟨e1, h0⟩, -⟩; refine Z0m (D := [(23, vs 4)]) rfl ?_; rw [e1]; refine Z0e rfl rfl rfl rfl Z17 mm1 rfl ?_; refine Z02 ?_; exact Z1t rfl ⟨rfl, rfl⟩ (Z0a _) (by show [(23, vs 4)] = _; rw [e1])
   · rintro vs es Es Hx -; refine Z0m (D := []) rfl ?_; refine Z0q rfl rfl rfl rfl Z2u mm1 rfl ?_; refine Z02 ?_; exact Z1t rfl ⟨rfl, rfl⟩ (Z0a _) rfl
   · rintro vs es Es Hx ⟨⟨d5, g0⟩, -⟩; refine Z0m (D := [(25, vs 6)]) rfl ?_; rw [d5]; refine Z0n Zpo rfl rfl rfl rfl (fun wc hwc => Zhr (n0 := n0) wc (h_n0f3.mono hwc) e9) ?_; rintro _ _ ⟨a2, a4, a5, b7, rfl, rfl, c4, c7, h8, c8⟩; refine Z02 ?_; exact Z1t rfl ⟨a2, a4, a5, b7, rfl, rfl, c4, c7, h8, c8⟩ (by repeat (first | exact Z0a _ | exact Z09 | apply Pick.none | refine Z04 (by repeat (first | exact Take.head _ _ | apply Take.tail)) ?_)) (by show [(25, vs 6)] = _; rw [d5])
   · rintro vs es Es Hx ⟨⟨c3, d3⟩, ⟨d6, d8⟩, ⟨e2, e3⟩, ⟨a2, a4, a5, b7, d7, e4, c4, c7, h8, c8⟩, -⟩; refine Z0m (D := [(20, vs 1), (22, vs 3), (24, vs 5), (26, vs 7)]) rfl ?_; rw [c3, d6, e2, d7]; refine Z2z (H := [(some b3, .cells #[.int .i64 0, .int .i64 0, .int .i64 0, .slice none 0 0, .slice none 0 0, .slice none 0 0, .slice none 0 0, .slice none 0 0, .slice none 0 0] 64 (0, 0)), (some b1, .cells #[.int .i64 n0.N, .int .i64 n0.S, .int .i64 n0.T, .slice n0f3_b n0f3_n n0f3_c] 24 (0, 0))] ++ ([(a2, .cells (arr (intC .i64) r8 b7).toArray 3 (0, 0))] ++ Hx)) (by show _ ++ ((es 1 ++ (es 3 ++ (es 5 ++ (es 7 ++ ([]))))) ++ _) = _; rw [d3, d8, e3, e4]; rfl) ?_; refine Z2l (t := 64) [.int .i64 0, .int .i64 0, .int .i64 0, .slice none 0 0, .slice none 0 0, .slice none 0 0, .slice none 0 0, .slice none 0 0, .slice none 0 0] [0, 1, 2, 3, 4, 5, 6, 7, 8] rfl rfl rfl rfl (by simp only [Z1m, setCells, Value.cells, List.toList_toArray, List.getD_cons_zero, List.getD_cons_succ, List.set_cons_zero, List.set_cons_succ]; rfl) (by kernel_rfl) ?_; refine Z02 ?_; exact Z1t rfl ⟨by show _ = (Value.agg #[.int .i64 n0.N, .int .i64 n0.S, .int .i64 n0.T, vs 7, .slice none 0 0, .slice none 0 0, .slice none 0 0, .slice none 0 0, .slice none 0 0]); rw [d7] <;> rfl, rfl⟩ (by show Pick (_ ++ (_ ++ ((es 1 ++ (es 3 ++ (es 5 ++ (es 7 ++ ([]))))) ++ _))) _; rw [d3, d8, e3, e4]; exact (by repeat (first | exact Z0a _ | exact Z09 | apply Pick.none | refine Z04 (by repeat (first | exact Take.head _ _ | apply Take.tail)) ?_))) (by show [(20, vs 1), (22, vs 3), (24, vs 5), (26, vs 7)] = _; rw [c3, d6, e2, d7])
   · rintro vs es Es Hx -; refine Z0m (D := []) rfl ?_; refine Z1i rfl rfl rfl Zju ?_; intro a6; refine Z02 ?_; exact Z1t rfl ⟨a6, rfl, rfl⟩ (by repeat (first | exact Z0a _ | exact Z09 | apply Pick.none | refine Z04 (by repeat (first | exact Take.head _ _ | apply Take.tail)) ?_)) rfl
  ·
   rintro vs es hb ⟨⟨d4, f9⟩, ⟨c3, d3⟩, ⟨b9, f4⟩, ⟨d6, d8⟩, ⟨e1, h0⟩, ⟨e2, e3⟩, ⟨d5, g0⟩, ⟨a2, a4, a5, b7, d7, e4, c4, c7, h8, c8⟩, ⟨o4, h1⟩, ⟨a6, j5, h9⟩, -⟩ hHR; obtain rfl : hb = [] := hHR; have e5 : vs 8 = .agg #[.int .i64 n0.N, .int .i64 n0.S, .int .i64 n0.T, .slice (sb a2) a4 a5, .slice none 0 0, .slice none 0 0, .slice none 0 0, .slice none 0 0, .slice none 0 0] := by refine Eq.trans o4 ?_; show (Value.agg #[.int .i64 n0.N, .int .i64 n0.S, .int .i64 n0.T, vs 7, .slice none 0 0, .slice none 0 0, .slice none 0 0, .slice none 0 0, .slice none 0 0]) = _; rw [d7] <;> rfl
   refine Z0m (D := [(19, vs 0), (20, vs 1), (21, vs 2), (22, vs 3), (23, vs 4), (24, vs 5), (25, vs 6), (26, vs 7), (27, vs 8), (5, vs 9)]) rfl ?_; refine Z2z (H := [(some b3, .cells #[.int .i64 0, .int .i64 0, .int .i64 0, .slice none 0 0, .slice none 0 0, .slice none 0 0, .slice none 0 0, .slice none 0 0, .slice none 0 0] 64 (0, 0)), (some b1, .cells #[.int .i64 n0.N, .int .i64 n0.S, .int .i64 n0.T, .slice n0f3_b n0f3_n n0f3_c] 24 (0, 0)), (a2, .cells (arr (intC .i64) r8 b7).toArray 3 (0, 0)), (some a6, .cells #[.int .i64 0, .int .i64 0, .int .i64 0, .slice none 0 0, .slice none 0 0, .slice none 0 0, .slice none 0 0, .slice none 0 0, .slice none 0 0] 64 (0, 0))]) (by show _ ++ (_ ++ (es 0 ++ (es 1 ++ (es 2 ++ (es 3 ++ (es 4 ++ (es 5 ++ (es 6 ++ (es 7 ++ (es 8 ++ (es 9 ++ ([])))))))))))) = _; rw [f9, d3, f4, d8, h0, e3, g0, e4, h1, h9]; rfl) ?_; rw [d4, c3, b9, d6, e1, e2, d5, d7, e5, j5]; clear j5 e5 d7 d5 e2 e1 d6 b9 c3 d4 o4 f9 d3 f4 d8 h0 e3 g0 e4 h1 h9; refine Z1b rfl rfl rfl rfl tk3 Zfv rfl rfl rfl ?_; refine Z02 ?_; refine Z01 ?_; refine Z0k (Z00 (t := 1) rfl (Z00 (t := 2) rfl (Z00 (t := 5) rfl Z08))) ?_; refine Z0b ?_; obtain ⟨o5, H⟩ := Z0d H; refine Z03 (ll := [0, 1, 2, 3, 4, 5, 6]) rfl ?_; refine Z07 rfl rfl rfl rfl Zfz ?_; refine Z0e rfl rfl rfl rfl Z7l mm0 rfl ?_; refine Z07 rfl rfl rfl rfl Z38 ?_; refine Z0e rfl rfl rfl rfl Z17 mm2 rfl ?_; refine Z4u c8 c7 c4 o5 rfl rfl rfl rfl rfl Z2b Z25 ?_; refine Z71 c8 c7 c4 o5 rfl rfl rfl rfl Z17 mm3 ?_; refine Z06 rfl rfl rfl rfl ?_; refine Z02 ?_; refine Z01 ?_; refine Z0b ?_; obtain ⟨p1, H⟩ := Z0d H; obtain ⟨p2, H⟩ := Z0d H; obtain ⟨p3, H⟩ := Z0d H; obtain ⟨p4, H⟩ := Z0d H; obtain ⟨p5, H⟩ := Z0d H; apply Zdc [⟨[], false, [], Z5v _⟩, ⟨[0], false, [], fun _ v e => ∃ (c9 : Nat), v = .slice (some ⟨c9, 0, none⟩) ((r8.getD n0.N.toNat 0).toNat) ((r8.getD n0.N.toNat 0).toNat) ∧ e = [(some c9, .cells (arr (intC .i64) (List.replicate ((r8.getD n0.N.toNat 0).toNat) (0 : Int)) ([])).toArray 3 (0, 0))]⟩, ⟨[], false, [], Z5v _⟩, ⟨[2], false, [], fun _ v e => ∃ (a8 : Nat), v = .slice (some ⟨a8, 0, none⟩) ((r8.getD n0.N.toNat 0).toNat) ((r8.getD n0.N.toNat 0).toNat) ∧ e = [(some a8, .cells (arr (intC .i64) (List.replicate ((r8.getD n0.N.toNat 0).toNat) (0 : Int)) ([])).toArray 3 (0, 0))]⟩, ⟨[], false, [], Z5v _⟩, ⟨[4], false, [], fun _ v e => ∃ (d0 : Nat), v = .slice (some ⟨d0, 0, none⟩) ((r8.getD n0.N.toNat 0).toNat) ((r8.getD n0.N.toNat 0).toNat) ∧ e = [(some d0, .cells (arr (intC .i64) (List.replicate ((r8.getD n0.N.toNat 0).toNat) (0 : Int)) ([])).toArray 2 (0, 0))]⟩, ⟨[], false, [], Z5v _⟩, ⟨[6], false, [], fun _ v e => ∃ (d1 : Nat), v = .slice (some ⟨d1, 0, none⟩) ((r8.getD n0.N.toNat 0).toNat) ((r8.getD n0.N.toNat 0).toNat) ∧ e = [(some d1, .cells (arr (intC .i64) (List.replicate ((r8.getD n0.N.toNat 0).toNat) (0 : Int)) ([])).toArray 3 (0, 0))]⟩, ⟨[], false, [], Z5v _⟩, ⟨[8], false, [], fun _ v e => ∃ (b35 : Nat), v = .slice (some ⟨b35, 0, none⟩) ((r8.getD n0.N.toNat 0).toNat) ((r8.getD n0.N.toNat 0).toNat) ∧ e = [(some b35, .cells (arr boolC (List.replicate ((r8.getD n0.N.toNat 0).toNat) (false : Bool)) ([])).toArray 4 (0, 0))]⟩, ⟨[], false, [], Z5v _⟩, ⟨[1, 10], true, [], relN⟩, ⟨[], false, [], Z5v _⟩, ⟨[3, 12], true, [], relN⟩, ⟨[], false, [], Z5v _⟩, ⟨[5, 14], true, [], relN⟩, ⟨[], false, [], Z5v _⟩, ⟨[7, 16], true, [], relN⟩] [34, 35, 36, 37, 38, 39, 40, 41, 42, 43, 44, 45, 46, 47] 18 (HRv [fun vl => [(some a6, .cells #[.int .i64 n0.N, .int .i64 n0.S, .int .i64 n0.T, .slice (sb a2) a4 a5, .slice none 0 0, .slice none 0 0, .slice none 0 0, .slice none 0 0, .slice none 0 0] 64 (0, 0))], fun vl => [(some a6, .cells #[.int .i64 n0.N, .int .i64 n0.S, .int .i64 n0.T, .slice (sb a2) a4 a5, (vl.getD 0 undef), .slice none 0 0, .slice none 0 0, .slice none 0 0, .slice none 0 0] 64 (0, 0))], fun vl => [(some a6, .cells #[.int .i64 n0.N, .int .i64 n0.S, .int .i64 n0.T, .slice (sb a2) a4 a5, (vl.getD 0 undef), (vl.getD 1 undef), .slice none 0 0, .slice none 0 0, .slice none 0 0] 64 (0, 0))], fun vl => [(some a6, .cells #[.int .i64 n0.N, .int .i64 n0.S, .int .i64 n0.T, .slice (sb a2) a4 a5, (vl.getD 0 undef), (vl.getD 1 undef), (vl.getD 2 undef), .slice none 0 0, .slice none 0 0] 64 (0, 0))], fun vl => [(some a6, .cells #[.int .i64 n0.N, .int .i64 n0.S, .int .i64 n0.T, .slice (sb a2) a4 a5, (vl.getD 0 undef), (vl.getD 1 undef), (vl.getD 2 undef), (vl.getD 3 undef), .slice none 0 0] 64 (0, 0))]]) [[], [1], [1, 3], [1, 3, 5], [1, 3, 5, 7]] [(some a6, .cells #[.int .i64 n0.N, .int .i64 n0.S, .int .i64 n0.T, .slice (sb a2) a4 a5, .slice none 0 0, .slice none 0 0, .slice none 0 0, .slice none 0 0, .slice none 0 0] 64 (0, 0))] [(some b3, .cells #[.int .i64 0, .int .i64 0, .int .i64 0, .slice none 0 0, .slice none 0 0, .slice none 0 0, .slice none 0 0, .slice none 0 0, .slice none 0 0] 64 (0, 0)), (some b1, .cells #[.int .i64 n0.N, .int .i64 n0.S, .int .i64 n0.T, .slice n0f3_b n0f3_n n0f3_c] 24 (0, 0)), (a2, .cells (arr (intC .i64) r8 b7).toArray 3 (0, 0))]
   · exact Z4y
   · exact rfl
   · kernel_rfl
   · kernel_rfl
   · kernel_rfl
   · exact rfl
   · exact rfl
   · exact rfl
   · exact rfl
   · exact (by repeat (first | exact Z0a _ | exact Z09 | apply Pick.none | refine Z04 (by repeat (first | exact Take.head _ _ | apply Take.tail)) ?_))
   ·
    refine ⟨?_, ?_, ?_, ?_, ?_, ?_, ?_, ?_, ?_, ?_, ?_, ?_, ?_, ?_, ?_, ?_, ?_, ?_, trivial⟩
    · rintro vs es Es Hx -; refine Z0m (D := []) rfl ?_; refine Z05 rfl rfl rfl rfl ?_; refine Z02 ?_; exact Z1t rfl ⟨rfl, rfl⟩ (Z0a _) rfl
    · rintro vs es Es Hx ⟨⟨d4, f9⟩, -⟩; refine Z0m (D := [(34, vs 0)]) rfl ?_; rw [d4]; refine Zcx p1 rfl rfl rfl rfl rfl Z2b Z25 Zds Zdu rfl ?_; intro c9; refine Z02 ?_; exact Z1t rfl ⟨c9, rfl, rfl⟩ (by repeat (first | exact Z0a _ | exact Z09 | apply Pick.none | refine Z04 (by repeat (first | exact Take.head _ _ | apply Take.tail)) ?_)) (by show [(34, vs 0)] = _; rw [d4])
    · rintro vs es Es Hx -; refine Z0m (D := []) rfl ?_; refine Z05 rfl rfl rfl rfl ?_; refine Z02 ?_; exact Z1t rfl ⟨rfl, rfl⟩ (Z0a _) rfl
    · rintro vs es Es Hx ⟨⟨b9, f4⟩, -⟩; refine Z0m (D := [(36, vs 2)]) rfl ?_; rw [b9]; refine Zcx p2 rfl rfl rfl rfl rfl Z2b Z25 Zds Zdu rfl ?_; intro a8; refine Z02 ?_; exact Z1t rfl ⟨a8, rfl, rfl⟩ (by repeat (first | exact Z0a _ | exact Z09 | apply Pick.none | refine Z04 (by repeat (first | exact Take.head _ _ | apply Take.tail)) ?_)) (by show [(36, vs 2)] = _; rw [b9])
    · rintro vs es Es Hx -; refine Z0m (D := []) rfl ?_; refine Z05 rfl rfl rfl rfl ?_; refine Z02 ?_; exact Z1t rfl ⟨rfl, rfl⟩ (Z0a _) rfl
    · rintro vs es Es Hx ⟨⟨e1, h0⟩, -⟩; refine Z0m (D := [(38, vs 4)]) rfl ?_; rw [e1]; refine Zcx p3 rfl rfl rfl rfl rfl Zjy Zia TWCS4.z2 TWCS4.b2 rfl ?_; intro d0; refine Z02 ?_; exact Z1t rfl ⟨d0, rfl, rfl⟩ (by repeat (first | exact Z0a _ | exact Z09 | apply Pick.none | refine Z04 (by repeat (first | exact Take.head _ _ | apply Take.tail)) ?_)) (by show [(38, vs 4)] = _; rw [e1])
    · rintro vs es Es Hx -; refine Z0m (D := []) rfl ?_; refine Z05 rfl rfl rfl rfl ?_; refine Z02 ?_; exact Z1t rfl ⟨rfl, rfl⟩ (Z0a _) rfl
    · rintro vs es Es Hx ⟨⟨d5, g0⟩, -⟩; refine Z0m (D := [(40, vs 6)]) rfl ?_; rw [d5]; refine Zcx p4 rfl rfl rfl rfl rfl Z2b Z25 Zds Zdu rfl ?_; intro d1; refine Z02 ?_; exact Z1t rfl ⟨d1, rfl, rfl⟩ (by repeat (first | exact Z0a _ | exact Z09 | apply Pick.none | refine Z04 (by repeat (first | exact Take.head _ _ | apply Take.tail)) ?_)) (by show [(40, vs 6)] = _; rw [d5])
    · rintro vs es Es Hx -; refine Z0m (D := []) rfl ?_; refine Z05 rfl rfl rfl rfl ?_; refine Z02 ?_; exact Z1t rfl ⟨rfl, rfl⟩ (Z0a _) rfl
    · rintro vs es Es Hx ⟨⟨e5, h1⟩, -⟩; refine Z0m (D := [(42, vs 8)]) rfl ?_; rw [e5]; refine Zpy p5 rfl rfl rfl rfl rfl Zjx Zi9 TWCS4.z4 TWCS4.b4 rfl ?_; intro b35; refine Z02 ?_; exact Z1t rfl ⟨b35, rfl, rfl⟩ (by repeat (first | exact Z0a _ | exact Z09 | apply Pick.none | refine Z04 (by repeat (first | exact Take.head _ _ | apply Take.tail)) ?_)) (by show [(42, vs 8)] = _; rw [e5])
    · rintro vs es Es Hx -; refine Z0m (D := []) rfl ?_; refine Z07 rfl rfl rfl rfl Zd8 ?_; refine Z02 ?_; exact Z1t rfl ⟨rfl, rfl⟩ (Z0a _) rfl
    · rintro vs es Es Hx hb ⟨⟨c9, c3, d3⟩, ⟨g1, g2⟩, -⟩ hHR; obtain rfl : hb = [(some a6, .cells #[.int .i64 n0.N, .int .i64 n0.S, .int .i64 n0.T, .slice (sb a2) a4 a5, .slice none 0 0, .slice none 0 0, .slice none 0 0, .slice none 0 0, .slice none 0 0] 64 (0, 0))] := hHR; refine Z0m (D := [(35, vs 1), (44, vs 10)]) rfl ?_; rw [c3, g1]; refine Z2z (H := [(some a6, .cells #[.int .i64 n0.N, .int .i64 n0.S, .int .i64 n0.T, .slice (sb a2) a4 a5, .slice none 0 0, .slice none 0 0, .slice none 0 0, .slice none 0 0, .slice none 0 0] 64 (0, 0))] ++ ([(some b3, .cells #[.int .i64 0, .int .i64 0, .int .i64 0, .slice none 0 0, .slice none 0 0, .slice none 0 0, .slice none 0 0, .slice none 0 0, .slice none 0 0] 64 (0, 0)), (some b1, .cells #[.int .i64 n0.N, .int .i64 n0.S, .int .i64 n0.T, .slice n0f3_b n0f3_n n0f3_c] 24 (0, 0)), (a2, .cells (arr (intC .i64) r8 b7).toArray 3 (0, 0))] ++ ([(some c9, .cells (arr (intC .i64) (List.replicate ((r8.getD n0.N.toNat 0).toNat) (0 : Int)) ([])).toArray 3 (0, 0))] ++ Hx))) (by show _ ++ (_ ++ ((es 1 ++ (es 10 ++ ([]))) ++ _)) = _; rw [d3, g2]; rfl) ?_; refine Z2h (cs' := [.int .i64 n0.N, .int .i64 n0.S, .int .i64 n0.T, .slice (sb a2) a4 a5, .slice (some ⟨c9, 0, none⟩) ((r8.getD n0.N.toNat 0).toNat) ((r8.getD n0.N.toNat 0).toNat), .slice none 0 0, .slice none 0 0, .slice none 0 0, .slice none 0 0]) rfl rfl rfl rfl tk0 Zdt rfl rfl rfl ?_; rw [← c3]; refine Z02 ?_; exact Zjg (hb' := [(some a6, .cells #[.int .i64 n0.N, .int .i64 n0.S, .int .i64 n0.T, .slice (sb a2) a4 a5, (vs 1), .slice none 0 0, .slice none 0 0, .slice none 0 0, .slice none 0 0] 64 (0, 0))]) rfl rfl rfl (by show Pick (_ ++ (_ ++ ((es 1 ++ (es 10 ++ ([]))) ++ _))) _; rw [d3, g2]; exact (by repeat (first | exact Z0a _ | exact Z09 | apply Pick.none | refine Z04 (by repeat (first | exact Take.head _ _ | apply Take.tail)) ?_))) (by show [(35, vs 1), (44, vs 10)] = _; rw [g1])
    · rintro vs es Es Hx -; refine Z0m (D := []) rfl ?_; refine Z07 rfl rfl rfl rfl Zd7 ?_; refine Z02 ?_; exact Z1t rfl ⟨rfl, rfl⟩ (Z0a _) rfl
    · rintro vs es Es Hx hb ⟨⟨a8, d6, d8⟩, ⟨g3, g4⟩, -⟩ hHR; obtain rfl : hb = [(some a6, .cells #[.int .i64 n0.N, .int .i64 n0.S, .int .i64 n0.T, .slice (sb a2) a4 a5, (vs 1), .slice none 0 0, .slice none 0 0, .slice none 0 0, .slice none 0 0] 64 (0, 0))] := hHR; refine Z0m (D := [(37, vs 3), (45, vs 12)]) rfl ?_; rw [d6, g3]; refine Z2z (H := [(some a6, .cells #[.int .i64 n0.N, .int .i64 n0.S, .int .i64 n0.T, .slice (sb a2) a4 a5, (vs 1), .slice none 0 0, .slice none 0 0, .slice none 0 0, .slice none 0 0] 64 (0, 0))] ++ ([(some b3, .cells #[.int .i64 0, .int .i64 0, .int .i64 0, .slice none 0 0, .slice none 0 0, .slice none 0 0, .slice none 0 0, .slice none 0 0, .slice none 0 0] 64 (0, 0)), (some b1, .cells #[.int .i64 n0.N, .int .i64 n0.S, .int .i64 n0.T, .slice n0f3_b n0f3_n n0f3_c] 24 (0, 0)), (a2, .cells (arr (intC .i64) r8 b7).toArray 3 (0, 0))] ++ ([(some a8, .cells (arr (intC .i64) (List.replicate ((r8.getD n0.N.toNat 0).toNat) (0 : Int)) ([])).toArray 3 (0, 0))] ++ Hx))) (by show _ ++ (_ ++ ((es 3 ++ (es 12 ++ ([]))) ++ _)) = _; rw [d8, g4]; rfl) ?_; refine Z2h (cs' := [.int .i64 n0.N, .int .i64 n0.S, .int .i64 n0.T, .slice (sb a2) a4 a5, (vs 1), .slice (some ⟨a8, 0, none⟩) ((r8.getD n0.N.toNat 0).toNat) ((r8.getD n0.N.toNat 0).toNat), .slice none 0 0, .slice none 0 0, .slice none 0 0]) rfl rfl rfl rfl tk0 Zdt rfl rfl rfl ?_; rw [← d6]; refine Z02 ?_; exact Zjg (hb' := [(some a6, .cells #[.int .i64 n0.N, .int .i64 n0.S, .int .i64 n0.T, .slice (sb a2) a4 a5, (vs 1), (vs 3), .slice none 0 0, .slice none 0 0, .slice none 0 0] 64 (0, 0))]) rfl rfl rfl (by show Pick (_ ++ (_ ++ ((es 3 ++ (es 12 ++ ([]))) ++ _))) _; rw [d8, g4]; exact (by repeat (first | exact Z0a _ | exact Z09 | apply Pick.none | refine Z04 (by repeat (first | exact Take.head _ _ | apply Take.tail)) ?_))) (by show [(37, vs 3), (45, vs 12)] = _; rw [g3])
    · rintro vs es Es Hx -; refine Z0m (D := []) rfl ?_; refine Z07 rfl rfl rfl rfl Zfy ?_; refine Z02 ?_; exact Z1t rfl ⟨rfl, rfl⟩ (Z0a _) rfl
    · rintro vs es Es Hx hb ⟨⟨d0, e2, e3⟩, ⟨g5, g6⟩, -⟩ hHR; obtain rfl : hb = [(some a6, .cells #[.int .i64 n0.N, .int .i64 n0.S, .int .i64 n0.T, .slice (sb a2) a4 a5, (vs 1), (vs 3), .slice none 0 0, .slice none 0 0, .slice none 0 0] 64 (0, 0))] := hHR; refine Z0m (D := [(39, vs 5), (46, vs 14)]) rfl ?_; rw [e2, g5]; refine Z2z (H := [(some a6, .cells #[.int .i64 n0.N, .int .i64 n0.S, .int .i64 n0.T, .slice (sb a2) a4 a5, (vs 1), (vs 3), .slice none 0 0, .slice none 0 0, .slice none 0 0] 64 (0, 0))] ++ ([(some b3, .cells #[.int .i64 0, .int .i64 0, .int .i64 0, .slice none 0 0, .slice none 0 0, .slice none 0 0, .slice none 0 0, .slice none 0 0, .slice none 0 0] 64 (0, 0)), (some b1, .cells #[.int .i64 n0.N, .int .i64 n0.S, .int .i64 n0.T, .slice n0f3_b n0f3_n n0f3_c] 24 (0, 0)), (a2, .cells (arr (intC .i64) r8 b7).toArray 3 (0, 0))] ++ ([(some d0, .cells (arr (intC .i64) (List.replicate ((r8.getD n0.N.toNat 0).toNat) (0 : Int)) ([])).toArray 2 (0, 0))] ++ Hx))) (by show _ ++ (_ ++ ((es 5 ++ (es 14 ++ ([]))) ++ _)) = _; rw [e3, g6]; rfl) ?_; refine Z2h (cs' := [.int .i64 n0.N, .int .i64 n0.S, .int .i64 n0.T, .slice (sb a2) a4 a5, (vs 1), (vs 3), .slice (some ⟨d0, 0, none⟩) ((r8.getD n0.N.toNat 0).toNat) ((r8.getD n0.N.toNat 0).toNat), .slice none 0 0, .slice none 0 0]) rfl rfl rfl rfl tk0 Zpl rfl rfl rfl ?_; rw [← e2]; refine Z02 ?_; exact Zjg (hb' := [(some a6, .cells #[.int .i64 n0.N, .int .i64 n0.S, .int .i64 n0.T, .slice (sb a2) a4 a5, (vs 1), (vs 3), (vs 5), .slice none 0 0, .slice none 0 0] 64 (0, 0))]) rfl rfl rfl (by show Pick (_ ++ (_ ++ ((es 5 ++ (es 14 ++ ([]))) ++ _))) _; rw [e3, g6]; exact (by repeat (first | exact Z0a _ | exact Z09 | apply Pick.none | refine Z04 (by repeat (first | exact Take.head _ _ | apply Take.tail)) ?_))) (by show [(39, vs 5), (46, vs 14)] = _; rw [g5])
    · rintro vs es Es Hx -; refine Z0m (D := []) rfl ?_; refine Z07 rfl rfl rfl rfl Zfx ?_; refine Z02 ?_; exact Z1t rfl ⟨rfl, rfl⟩ (Z0a _) rfl
    · rintro vs es Es Hx hb ⟨⟨d1, d7, e4⟩, ⟨g8, g9⟩, -⟩ hHR; obtain rfl : hb = [(some a6, .cells #[.int .i64 n0.N, .int .i64 n0.S, .int .i64 n0.T, .slice (sb a2) a4 a5, (vs 1), (vs 3), (vs 5), .slice none 0 0, .slice none 0 0] 64 (0, 0))] := hHR; refine Z0m (D := [(41, vs 7), (47, vs 16)]) rfl ?_; rw [d7, g8]; refine Z2z (H := [(some a6, .cells #[.int .i64 n0.N, .int .i64 n0.S, .int .i64 n0.T, .slice (sb a2) a4 a5, (vs 1), (vs 3), (vs 5), .slice none 0 0, .slice none 0 0] 64 (0, 0))] ++ ([(some b3, .cells #[.int .i64 0, .int .i64 0, .int .i64 0, .slice none 0 0, .slice none 0 0, .slice none 0 0, .slice none 0 0, .slice none 0 0, .slice none 0 0] 64 (0, 0)), (some b1, .cells #[.int .i64 n0.N, .int .i64 n0.S, .int .i64 n0.T, .slice n0f3_b n0f3_n n0f3_c] 24 (0, 0)), (a2, .cells (arr (intC .i64) r8 b7).toArray 3 (0, 0))] ++ ([(some d1, .cells (arr (intC .i64) (List.replicate ((r8.getD n0.N.toNat 0).toNat) (0 : Int)) ([])).toArray 3 (0, 0))] ++ Hx))) (by show _ ++ (_ ++ ((es 7 ++ (es 16 ++ ([]))) ++ _)) = _; rw [e4, g9]; rfl) ?_; refine Z2h (cs' := [.int .i64 n0.N, .int .i64 n0.S, .int .i64 n0.T, .slice (sb a2) a4 a5, (vs 1), (vs 3), (vs 5), .slice (some ⟨d1, 0, none⟩) ((r8.getD n0.N.toNat 0).toNat) ((r8.getD n0.N.toNat 0).toNat), .slice none 0 0]) rfl rfl rfl rfl tk0 Zdt rfl rfl rfl ?_; rw [← d7]; refine Z02 ?_; exact Zjg (hb' := [(some a6, .cells #[.int .i64 n0.N, .int .i64 n0.S, .int .i64 n0.T, .slice (sb a2) a4 a5, (vs 1), (vs 3), (vs 5), (vs 7), .slice none 0 0] 64 (0, 0))]) rfl rfl rfl (by show Pick (_ ++ (_ ++ ((es 7 ++ (es 16 ++ ([]))) ++ _))) _; rw [e4, g9]; exact (by repeat (first | exact Z0a _ | exact Z09 | apply Pick.none | refine Z04 (by repeat (first | exact Take.head _ _ | apply Take.tail)) ?_))) (by show [(41, vs 7), (47, vs 16)] = _; rw [g8])
   ·
    rintro vs es hb ⟨⟨d4, f9⟩, ⟨c9, c3, d3⟩, ⟨b9, f4⟩, ⟨a8, d6, d8⟩, ⟨e1, h0⟩, ⟨d0, e2, e3⟩, ⟨d5, g0⟩, ⟨d1, d7, e4⟩, ⟨e5, h1⟩, ⟨b35, j5, h9⟩, ⟨g1, g2⟩, j6, ⟨g3, g4⟩, j7, ⟨g5, g6⟩, j8, ⟨g8, g9⟩, j9, -⟩ hHR; obtain rfl : hb = [(some a6, .cells #[.int .i64 n0.N, .int .i64 n0.S, .int .i64 n0.T, .slice (sb a2) a4 a5, (vs 1), (vs 3), (vs 5), (vs 7), .slice none 0 0] 64 (0, 0))] := hHR; refine Z0m (D := [(34, vs 0), (35, vs 1), (36, vs 2), (37, vs 3), (38, vs 4), (39, vs 5), (40, vs 6), (41, vs 7), (42, vs 8), (43, vs 9), (44, vs 10), (45, vs 12), (46, vs 14), (47, vs 16)]) rfl ?_; refine Z2z (H := [(some a6, .cells #[.int .i64 n0.N, .int .i64 n0.S, .int .i64 n0.T, .slice (sb a2) a4 a5, (vs 1), (vs 3), (vs 5), (vs 7), .slice none 0 0] 64 (0, 0)), (some b3, .cells #[.int .i64 0, .int .i64 0, .int .i64 0, .slice none 0 0, .slice none 0 0, .slice none 0 0, .slice none 0 0, .slice none 0 0, .slice none 0 0] 64 (0, 0)), (some b1, .cells #[.int .i64 n0.N, .int .i64 n0.S, .int .i64 n0.T, .slice n0f3_b n0f3_n n0f3_c] 24 (0, 0)), (a2, .cells (arr (intC .i64) r8 b7).toArray 3 (0, 0)), (some c9, .cells (arr (intC .i64) (List.replicate ((r8.getD n0.N.toNat 0).toNat) (0 : Int)) ([])).toArray 3 (0, 0)), (some a8, .cells (arr (intC .i64) (List.replicate ((r8.getD n0.N.toNat 0).toNat) (0 : Int)) ([])).toArray 3 (0, 0)), (some d0, .cells (arr (intC .i64) (List.replicate ((r8.getD n0.N.toNat 0).toNat) (0 : Int)) ([])).toArray 2 (0, 0)), (some d1, .cells (arr (intC .i64) (List.replicate ((r8.getD n0.N.toNat 0).toNat) (0 : Int)) ([])).toArray 3 (0, 0)), (some b35, .cells (arr boolC (List.replicate ((r8.getD n0.N.toNat 0).toNat) (false : Bool)) ([])).toArray 4 (0, 0))]) (by show _ ++ (_ ++ (es 0 ++ (es 1 ++ (es 2 ++ (es 3 ++ (es 4 ++ (es 5 ++ (es 6 ++ (es 7 ++ (es 8 ++ (es 9 ++ (es 10 ++ (es 11 ++ (es 12 ++ (es 13 ++ (es 14 ++ (es 15 ++ (es 16 ++ (es 17 ++ ([])))))))))))))))))))) = _; rw [f9, d3, f4, d8, h0, e3, g0, e4, h1, h9, g2, j6, g4, j7, g6, j8, g9, j9]; rfl) ?_; rw [d4, c3, b9, d6, e1, e2, d5, d7, e5, j5, g1, g3, g5, g8]; clear g8 g5 g3 g1 j5 e5 d7 d5 e2 e1 d6 b9 c3 d4 f9 d3 f4 d8 h0 e3 g0 e4 h1 h9 g2 j6 g4 j7 g6 j8 g9 j9; refine Z07 rfl rfl rfl rfl Zfw ?_; refine Z2h (cs' := [.int .i64 n0.N, .int .i64 n0.S, .int .i64 n0.T, .slice (sb a2) a4 a5, .slice (some ⟨c9, 0, none⟩) ((r8.getD n0.N.toNat 0).toNat) ((r8.getD n0.N.toNat 0).toNat), .slice (some ⟨a8, 0, none⟩) ((r8.getD n0.N.toNat 0).toNat) ((r8.getD n0.N.toNat 0).toNat), .slice (some ⟨d0, 0, none⟩) ((r8.getD n0.N.toNat 0).toNat) ((r8.getD n0.N.toNat 0).toNat), .slice (some ⟨d1, 0, none⟩) ((r8.getD n0.N.toNat 0).toNat) ((r8.getD n0.N.toNat 0).toNat), .slice (some ⟨b35, 0, none⟩) ((r8.getD n0.N.toNat 0).toNat) ((r8.getD n0.N.toNat 0).toNat)]) rfl rfl rfl rfl tk0 Zpk rfl rfl rfl ?_; refine Z02 ?_; refine Z01 ?_; refine Z0k (Z00 (t := 1) rfl (Z00 (t := 2) rfl (Z00 (t := 5) rfl Z08))) ?_; refine Z0b ?_; obtain ⟨p6, p7, H⟩ := Z0l H; refine Z03 (ll := [0, 1, 2, 3, 4]) rfl ?_; refine Z07 rfl rfl rfl rfl Zfz ?_; refine Z0e rfl rfl rfl rfl Z7l mm0 rfl ?_; refine Z0n Zpn rfl rfl rfl rfl (fun wc hwc => Zdf (s0 := r8) wc (hwc.rs (f := (intC .i64)) (s := 1) (xs := r8) (j := b7) (fun _ => rfl) mm3 c4 c7 c8) p7) ?_; rintro _ _ ⟨d9, n40, c41, l4, rfl, rfl, l5, k1, k2, k3⟩; refine TO.alloc rfl rfl rfl Zph ?_; intro l1; refine Z2h (cs' := [.slice (sb d9) n40 c41]) rfl rfl rfl rfl tk0 Zdt rfl rfl rfl ?_; refine Z02 ?_; refine Z01 ?_; refine Z0b ?_; refine Z03 (ll := [0, 1]) rfl ?_; refine TO.makeFunc rfl rfl rfl rfl rfl ?_; refine Z06 rfl rfl rfl rfl ?_; refine Z02 ?_; refine Z01 ?_; refine Z0b ?_; refine Z0b ?_; refine Z03 (ll := [0, 1, 2, 3]) rfl ?_; refine Z07 rfl rfl rfl rfl Z4w ?_; refine Z0e rfl rfl rfl rfl Z7m mm4 rfl ?_; refine Z26 (xs := n0.Arcs) h_n0f3.len rfl rfl rfl rfl rfl Z3w ?_; refine Z05 rfl rfl rfl rfl ?_; refine Z02 ?_; refine Z01 ?_; refine Zc8 (fun (e7 : List Int) (e8 : List Int) (f0 : List Int) (f2 : List Int) (f3 : List Bool) => Z8v n0 r8 e7 e8 f0 f2 f3 = some (r0, r1) ∧ e7.length = (r8.getD n0.N.toNat 0).toNat ∧ e8.length = (r8.getD n0.N.toNat 0).toNat ∧ f0.length = (r8.getD n0.N.toNat 0).toNat ∧ f2.length = (r8.getD n0.N.toNat 0).toNat ∧ f3.length = (r8.getD n0.N.toNat 0).toNat) (fun (e7 : List Int) (e8 : List Int) (f0 : List Int) (f2 : List Int) (f3 : List Bool) => [(2, .pointer (some ⟨b3, 0, none⟩)), (5, .pointer (some ⟨a6, 0, none⟩))]) (fun (e7 : List Int) (e8 : List Int) (f0 : List Int) (f2 : List Int) (f3 : List Bool) => [(some b3, .cells #[.int .i64 0, .int .i64 0, .int .i64 0, .slice none 0 0, .slice none 0 0, .slice none 0 0, .slice none 0 0, .slice none 0 0, .slice none 0 0] 64 (0, 0)), (some a6, .cells #[.int .i64 n0.N, .int .i64 n0.S, .int .i64 n0.T, .slice (sb a2) a4 a5, .slice (some ⟨c9, 0, none⟩) ((r8.getD n0.N.toNat 0).toNat) ((r8.getD n0.N.toNat 0).toNat), .slice (some ⟨a8, 0, none⟩) ((r8.getD n0.N.toNat 0).toNat) ((r8.getD n0.N.toNat 0).toNat), .slice (some ⟨d0, 0, none⟩) ((r8.getD n0.N.toNat 0).toNat) ((r8.getD n0.N.toNat 0).toNat), .slice (some ⟨d1, 0, none⟩) ((r8.getD n0.N.toNat 0).toNat) ((r8.getD n0.N.toNat 0).toNat), .slice (some ⟨b35, 0, none⟩) ((r8.getD n0.N.toNat 0).toNat) ((r8.getD n0.N.toNat 0).toNat)] 64 (0, 0)), (a2, .cells (arr (intC .i64) r8 b7).toArray 3 (0, 0)), (some c9, .cells (arr (intC .i64) e7 ([])).toArray 3 (0, 0)), (some a8, .cells (arr (intC .i64) e8 ([])).toArray 3 (0, 0)), (some d0, .cells (arr (intC .i64) f0 ([])).toArray 2 (0, 0)), (some d1, .cells (arr (intC .i64) f2 ([])).toArray 3 (0, 0)), (some b35, .cells (arr boolC f3 ([])).toArray 4 (0, 0))]) ?_ ?_
    ·
     refine T.block ?_; obtain ⟨p8, d3, p9⟩ := Z0l H; refine Zb7 (fun (i9 : Nat) (a9 : List Int) (a3 : List Int) (b0 : List Int) (b5 : List Int) (b6 : List Bool) (b8 : List Int) (a7 : Int) => Z28 (fun s => Z7h n0 r8 s.1 s.2.1 s.2.2.1 s.2.2.2.1 s.2.2.2.2.1 s.2.2.2.2.2.1 s.2.2.2.2.2.2) i9 (a9, a3, b0, b5, b6, b8, a7) = some p8 ∧ a9.length = (r8.getD n0.N.toNat 0).toNat ∧ a3.length = (r8.getD n0.N.toNat 0).toNat ∧ b0.length = (r8.getD n0.N.toNat 0).toNat ∧ b5.length = (r8.getD n0.N.toNat 0).toNat ∧ b6.length = (r8.getD n0.N.toNat 0).toNat ∧ b8.length = n40) (fun (i9 : Nat) (a9 : List Int) (a3 : List Int) (b0 : List Int) (b5 : List Int) (b6 : List Bool) (b8 : List Int) (a7 : Int) => [(2, .pointer (some ⟨b3, 0, none⟩)), (5, .pointer (some ⟨a6, 0, none⟩)), (8, .func (.func 75) #[] #[.pointer (some ⟨l1, 0, none⟩), .pointer (some ⟨a6, 0, none⟩)]), (54, .slice n0f3_b n0f3_n n0f3_c), (55, .int .i64 (n0.Arcs.length : Int)), (56, .int .i64 a7)]) (fun (i9 : Nat) (a9 : List Int) (a3 : List Int) (b0 : List Int) (b5 : List Int) (b6 : List Bool) (b8 : List Int) (a7 : Int) => [(some b3, .cells #[.int .i64 0, .int .i64 0, .int .i64 0, .slice none 0 0, .slice none 0 0, .slice none 0 0, .slice none 0 0, .slice none 0 0, .slice none 0 0] 64 (0, 0)), (some a6, .cells #[.int .i64 n0.N, .int .i64 n0.S, .int .i64 n0.T, .slice (sb a2) a4 a5, .slice (some ⟨c9, 0, none⟩) ((r8.getD n0.N.toNat 0).toNat) ((r8.getD n0.N.toNat 0).toNat), .slice (some ⟨a8, 0, none⟩) ((r8.getD n0.N.toNat 0).toNat) ((r8.getD n0.N.toNat 0).toNat), .slice (some ⟨d0, 0, none⟩) ((r8.getD n0.N.toNat 0).toNat) ((r8.getD n0.N.toNat 0).toNat), .slice (some ⟨d1, 0, none⟩) ((r8.getD n0.N.toNat 0).toNat) ((r8.getD n0.N.toNat 0).toNat), .slice (some ⟨b35, 0, none⟩) ((r8.getD n0.N.toNat 0).toNat) ((r8.getD n0.N.toNat 0).toNat)] 64 (0, 0)), (a2, .cells (arr (intC .i64) r8 b7).toArray 3 (0, 0)), (some c9, .cells (arr (intC .i64) a9 ([])).toArray 3 (0, 0)), (some a8, .cells (arr (intC .i64) a3 ([])).toArray 3 (0, 0)), (some d0, .cells (arr (intC .i64) b0 ([])).toArray 2 (0, 0)), (some d1, .cells (arr (intC .i64) b5 ([])).toArray 3 (0, 0)), (some b35, .cells (arr boolC b6 ([])).toArray 4 (0, 0)), (some l1, .cells #[.slice (sb d9) n40 c41] 40 (0, 0)), (d9, .cells (arr (intC .i64) b8 l4).toArray 3 (0, 0))]) (fun (i9 : Nat) (a9 : List Int) (a3 : List Int) (b0 : List Int) (b5 : List Int) (b6 : List Bool) (b8 : List Int) (a7 : Int) => i9) Z4d (List.replicate ((r8.getD n0.N.toNat 0).toNat) (0 : Int)) (List.replicate ((r8.getD n0.N.toNat 0).toNat) (0 : Int)) (List.replicate ((r8.getD n0.N.toNat 0).toNat) (0 : Int)) (List.replicate ((r8.getD n0.N.toNat 0).toNat) (0 : Int)) (List.replicate ((r8.getD n0.N.toNat 0).toNat) (false : Bool)) p6 0 ⟨d3, List.length_replicate, List.length_replicate, List.length_replicate, List.length_replicate, List.length_replicate, l5⟩ (Z00 rfl (Z00 rfl (Z00 rfl (Z00 rfl (Z00 rfl (Z00 rfl Z08)))))) (Z04 tk3 (Z04 tk2 (Z04 tk3 (Z04 tk3 (Z04 tk3 (Z04 tk3 (Z04 tk3 (Z04 tk3 (Z04 tk0 (Z04 tk0 Z09)))))))))) ?_; rintro i9 a9 a3 b0 b5 b6 b8 a7 ⟨H, i5, e0, i6, i7, i8, k4⟩; obtain ⟨o6, q0, rfl, H, l6⟩ := Z1c H; have H : Z7h n0 r8 a9 a3 b0 b5 b6 b8 a7 = some q0 := H; unfold Z7h at H; refine Z0b ?_; refine Z03 (ll := [0]) rfl ?_; refine Z0r rfl rfl rfl rfl rfl rfl ?_; refine Z02 ?_; refine Z01 ?_; refine Z0b ?_; rcases Z0g H with ⟨l7, H⟩ | ⟨l7, H⟩
     ·
      refine Z14 rfl l7 ?_; refine T.skip ?_; refine Z01 ?_; refine Z0b ?_; refine T.block ?_; refine Z0b ?_; obtain ⟨o7, H⟩ := Z0d H; refine Z03 (ll := [0, 1, 2, 3, 4, 5]) rfl ?_; refine Z05 rfl rfl rfl rfl ?_; refine Z2k h_n0f3 o7 rfl rfl rfl rfl rfl Z3w Z55 ?_; refine Z8o (cs := [.int .i64 ((n0.Arcs.getD a7.toNat default).fr), .int .i64 ((n0.Arcs.getD a7.toNat default).to), .int .i64 ((n0.Arcs.getD a7.toNat default).cap)]) default h_n0f3 o7 rfl rfl rfl rfl rfl Z8i ?_; refine Z1i rfl rfl rfl Zag ?_; intro o8; refine Z06 rfl rfl rfl rfl ?_; refine Z1b rfl rfl rfl rfl tk0 Z55 rfl rfl rfl ?_; refine Z02 ?_; refine Z01 ?_; refine Z0b ?_; refine Z0b ?_; refine Z03 (ll := [0, 1, 2, 3, 4]) rfl ?_; refine Z07 rfl rfl rfl rfl Z64 ?_; refine Z0e rfl rfl rfl rfl Z17 mm0 rfl ?_; refine Z07 rfl rfl rfl rfl Z6z ?_; refine Z0e rfl rfl rfl rfl Z17 mm0 rfl ?_; refine Z0r rfl rfl rfl rfl rfl rfl ?_; refine Z02 ?_; refine Z01 ?_; refine Z0k (Z00 (t := 2) rfl (Z00 (t := 5) rfl (Z00 (t := 8) rfl (Z00 (t := 54) rfl (Z00 (t := 55) rfl (Z00 (t := 56) rfl (Z00 (t := 10) rfl (Z00 (t := 9) rfl (Z00 (t := 65) rfl Z08))))))))) ?_; rcases Z0g H with ⟨l8, H⟩ | ⟨l8, H⟩
      · refine Z14 rfl l8 ?_; refine T.exit ?_; refine Z0j ?_; refine Z0x ?_; refine Z01 ?_; obtain ⟨q1, H⟩ := Z0d H; refine Z03 (ll := [0, 1]) rfl ?_; refine Z18 q1 rfl rfl rfl rfl rfl ?_; refine Z05 rfl rfl rfl rfl ?_; refine Z02 ?_; have H := Z16 H l6; exact Z5n o6 a9 a3 b0 b5 b6 b8 (a7 + 1) ⟨H, i5, e0, i6, i7, i8, k4⟩ (Nat.lt_succ_self _) (Z00 rfl (Z00 rfl (Z00 rfl (Z00 rfl (Z00 rfl (Z00 rfl Z08)))))) (Z04 tk1 (Z04 tk1 (Z04 tk1 (Z04 tk1 (Z04 tk1 (Z04 tk1 (Z04 tk1 (Z04 tk1 (Z04 tk1 (Z04 tk1 Z09))))))))))
      ·
       refine Z15 rfl l8 ?_; refine T.skip ?_; refine Z01 ?_; refine Z0b ?_; obtain ⟨⟨j0, q2, l3⟩, q3, H⟩ := Z0l H; refine Z03 (ll := [0, 1, 2, 3, 4, 5, 6, 7, 8, 9]) rfl ?_; refine Z05 rfl rfl rfl rfl ?_; refine Z07 rfl rfl rfl rfl Z64 ?_; refine Z0e rfl rfl rfl rfl Z17 mm0 rfl ?_; refine Z07 rfl rfl rfl rfl Z6z ?_; refine Z0e rfl rfl rfl rfl Z17 mm0 rfl ?_; refine Z07 rfl rfl rfl rfl Z6y ?_; refine Z0e rfl rfl rfl rfl Zb2 mm0 rfl ?_; refine Z05 rfl rfl rfl rfl ?_; refine Zao Zjz rfl rfl rfl rfl rfl (Z0p tk9 (Z0p tk9 (Z0p tk2 (Z0p tk3 (Z0p tk4 (Z0p tk4 (Z0p tk4 (Gone.refl _)))))))) rfl (fun wc hwc => Zea (from0 := (n0.Arcs.getD a7.toNat default).fr) (to1 := (n0.Arcs.getD a7.toNat default).to) (most2 := (n0.Arcs.getD a7.toNat default).cap) (arc3 := a7) (back4 := false) (c5 := b8) (c6 := (Csr.mk n0.N n0.S n0.T r8 a9 a3 b0 b5 b6)) wc (hwc.self (Z04 tk9 (Z04 tk9 (Z04 tk2 (Z04 tk3 (Z04 tk4 (Z04 tk4 (Z04 tk4 Z09))))))) rfl) k4 k1 k2 k3 (hwc.rsM (f := (intC .i64)) (s := 1) (xs := r8) (j := b7) (fun _ => rfl) (Z0p tk9 (Z0p tk9 (Z0p tk2 (Z0p tk3 (Z0p tk4 (Z0p tk4 (Z0p tk4 (Gone.refl _)))))))) rfl mm2 c4 c7 c8) i5 (Nat.le_refl _) (Z33 _ _) Z1e (hwc.rsM (f := (intC .i64)) (s := 1) (xs := a3) (j := ([])) (fun _ => rfl) (Z0p tk9 (Z0p tk9 (Z0p tk2 (Z0p tk3 (Z0p tk4 (Z0p tk4 (Z0p tk4 (Gone.refl _)))))))) rfl mm3 e0 (Nat.le_refl _) Z1e) i6 (Nat.le_refl _) (Z33 _ _) Z1e i7 (Nat.le_refl _) (Z33 _ _) Z1e i8 (Nat.le_refl _) (Z33 _ _) Z1e q3) ?_; rintro _ _ ⟨rfl, rfl, l9, m0, m1, m2, m3⟩; refine Z06 rfl rfl rfl rfl ?_; refine Z02 ?_; refine Z01 ?_; refine Z0k (Z00 (t := 2) rfl (Z00 (t := 5) rfl (Z00 (t := 8) rfl (Z00 (t := 54) rfl (Z00 (t := 55) rfl (Z00 (t := 56) rfl (Z00 (t := 10) rfl (Z00 (t := 9) rfl (Z00 (t := 11) rfl Z08))))))))) ?_; refine Z0b ?_; obtain ⟨⟨j1, m4, f5⟩, q4, H⟩ := Z0l H; refine Z03 (ll := [0, 1, 2, 3, 4, 5, 6, 7]) rfl ?_; refine Z05 rfl rfl rfl rfl ?_; refine Z07 rfl rfl rfl rfl Z6z ?_; refine Z0e rfl rfl rfl rfl Z17 mm7 rfl ?_; refine Z07 rfl rfl rfl rfl Z64 ?_; refine Z0e rfl rfl rfl rfl Z17 mm7 rfl ?_; refine Z05 rfl rfl rfl rfl ?_; refine Zao Zjz rfl rfl rfl rfl rfl (Z0p tk0 (Z0p tk0 (Z0p tk0 (Z0p tk0 (Z0p tk0 (Z0p tk0 (Z0p tk0 (Gone.refl _)))))))) rfl (fun wc hwc => Zea (from0 := (n0.Arcs.getD a7.toNat default).to) (to1 := (n0.Arcs.getD a7.toNat default).fr) (most2 := 0) (arc3 := a7) (back4 := true) (c5 := q2) (c6 := (Csr.mk n0.N n0.S n0.T r8 l3.Head a3 l3.Cap l3.Arc l3.Back)) wc (hwc.self (Z04 tk0 (Z04 tk0 (Z04 tk0 (Z04 tk0 (Z04 tk0 (Z04 tk0 (Z04 tk0 Z09))))))) rfl) l9 k1 k2 k3 (hwc.rsM (f := (intC .i64)) (s := 1) (xs := r8) (j := b7) (fun _ => rfl) (Z0p tk0 (Z0p tk0 (Z0p tk0 (Z0p tk0 (Z0p tk0 (Z0p tk0 (Z0p tk0 (Gone.refl _)))))))) rfl mm2 c4 c7 c8) m0 (Nat.le_refl _) (Z33 _ _) Z1e (hwc.rsM (f := (intC .i64)) (s := 1) (xs := a3) (j := ([])) (fun _ => rfl) (Z0p tk0 (Z0p tk0 (Z0p tk0 (Z0p tk0 (Z0p tk0 (Z0p tk0 (Z0p tk0 (Gone.refl _)))))))) rfl mm3 e0 (Nat.le_refl _) Z1e) m1 (Nat.le_refl _) (Z33 _ _) Z1e m2 (Nat.le_refl _) (Z33 _ _) Z1e m3 (Nat.le_refl _) (Z33 _ _) Z1e q4) ?_; rintro _ _ ⟨rfl, rfl, m5, m6, m7, m8, m9⟩; refine Z06 rfl rfl rfl rfl ?_; refine Z02 ?_; refine Z01 ?_; refine Z0k (Z00 (t := 2) rfl (Z00 (t := 5) rfl (Z00 (t := 8) rfl (Z00 (t := 54) rfl (Z00 (t := 55) rfl (Z00 (t := 56) rfl (Z00 (t := 11) rfl (Z00 (t := 12) rfl Z08)))))))) ?_; obtain ⟨o9, H⟩ := Z0d H; obtain ⟨p0, H⟩ := Z0d H; apply Zdc [⟨[], false, [], Z5v _⟩, ⟨[0], false, [], Z5v _⟩, ⟨[], false, [], Z5v _⟩, ⟨[], false, [], Z5v _⟩, ⟨[3], false, [], Z5v _⟩, ⟨[], false, [], Z5v _⟩, ⟨[], false, [], Z5v _⟩, ⟨[], false, [], Z5v _⟩, ⟨[1, 2], false, [], Z5v _⟩, ⟨[1, 2, 6, 8], true, [], relN⟩] [82, 83, 84, 85, 86, 87, 88, 89, 90] 10 (HRk [[(some a8, .cells (arr (intC .i64) a3 ([])).toArray 3 (0, 0))], [(some a8, .cells (arr (intC .i64) (a3.set j0.toNat j1) ([])).toArray 3 (0, 0))]]) [[], []] [(some a8, .cells (arr (intC .i64) a3 ([])).toArray 3 (0, 0))] [(some l1, .cells #[.slice (sb d9) n40 c41] 40 (0, 0)), (d9, .cells (arr (intC .i64) m4 l4).toArray 3 (0, 0)), (some a6, .cells #[.int .i64 n0.N, .int .i64 n0.S, .int .i64 n0.T, .slice (sb a2) a4 a5, .slice (some ⟨c9, 0, none⟩) ((r8.getD n0.N.toNat 0).toNat) ((r8.getD n0.N.toNat 0).toNat), .slice (some ⟨a8, 0, none⟩) ((r8.getD n0.N.toNat 0).toNat) ((r8.getD n0.N.toNat 0).toNat), .slice (some ⟨d0, 0, none⟩) ((r8.getD n0.N.toNat 0).toNat) ((r8.getD n0.N.toNat 0).toNat), .slice (some ⟨d1, 0, none⟩) ((r8.getD n0.N.toNat 0).toNat) ((r8.getD n0.N.toNat 0).toNat), .slice (some ⟨b35, 0, none⟩) ((r8.getD n0.N.toNat 0).toNat) ((r8.getD n0.N.toNat 0).toNat)] 64 (0, 0)), (some c9, .cells (arr (intC .i64) f5.Head ([])).toArray 3 (0, 0)), (some d0, .cells (arr (intC .i64) f5.Cap ([])).toArray 2 (0, 0)), (some d1, .cells (arr (intC .i64) f5.Arc ([])).toArray 3 (0, 0)), (some b35, .cells (arr boolC f5.Back ([])).toArray 4 (0, 0)), (some o8, .cells #[.int .i64 ((n0.Arcs.getD a7.toNat default).fr), .int .i64 ((n0.Arcs.getD a7.toNat default).to), .int .i64 ((n0.Arcs.getD a7.toNat default).cap)] 35 (0, 0)), (some b3, .cells #[.int .i64 0, .int .i64 0, .int .i64 0, .slice none 0 0, .slice none 0 0, .slice none 0 0, .slice none 0 0, .slice none 0 0, .slice none 0 0] 64 (0, 0)), (a2, .cells (arr (intC .i64) r8 b7).toArray 3 (0, 0))]
       · exact Z4y
       · exact rfl
       · kernel_rfl
       · kernel_rfl
       · kernel_rfl
       · exact rfl
       · exact rfl
       · exact rfl
       · exact rfl
       · exact (by repeat (first | exact Z0a _ | exact Z09 | apply Pick.none | refine Z04 (by repeat (first | exact Take.head _ _ | apply Take.tail)) ?_))
       ·
        refine ⟨?_, ?_, ?_, ?_, ?_, ?_, ?_, ?_, ?_, ?_, trivial⟩
        · rintro vs es Es Hx -; refine Z0m (D := []) rfl ?_; refine Z07 rfl rfl rfl rfl Zd7 ?_; refine Z02 ?_; exact Z1t rfl ⟨rfl, rfl⟩ (Z0a _) rfl
        · rintro vs es Es Hx ⟨⟨d4, f9⟩, -⟩; refine Z0m (D := [(82, vs 0)]) rfl ?_; rw [d4]; refine Z0e rfl rfl rfl rfl Z7l mm2 rfl ?_; refine Z02 ?_; exact Z1t rfl ⟨rfl, rfl⟩ (Z0a _) (by show [(82, vs 0)] = _; rw [d4])
        · rintro vs es Es Hx -; refine Z0m (D := []) rfl ?_; refine Z05 rfl rfl rfl rfl ?_; refine Z02 ?_; exact Z1t rfl ⟨rfl, rfl⟩ (Z0a _) rfl
        · rintro vs es Es Hx -; refine Z0m (D := []) rfl ?_; refine Z07 rfl rfl rfl rfl Zd7 ?_; refine Z02 ?_; exact Z1t rfl ⟨rfl, rfl⟩ (Z0a _) rfl
        · rintro vs es Es Hx ⟨⟨d6, d8⟩, -⟩; refine Z0m (D := [(85, vs 3)]) rfl ?_; rw [d6]; refine Z0e rfl rfl rfl rfl Z7l mm2 rfl ?_; refine Z02 ?_; exact Z1t rfl ⟨rfl, rfl⟩ (Z0a _) (by show [(85, vs 3)] = _; rw [d6])
        · rintro vs es Es Hx -; refine Z0m (D := []) rfl ?_; refine Z05 rfl rfl rfl rfl ?_; refine Z02 ?_; exact Z1t rfl ⟨rfl, rfl⟩ (Z0a _) rfl
        · rintro vs es Es Hx -; refine Z0m (D := []) rfl ?_; refine Z05 rfl rfl rfl rfl ?_; refine Z02 ?_; exact Z1t rfl ⟨rfl, rfl⟩ (Z0a _) rfl
        · rintro vs es Es Hx -; refine Z0m (D := []) rfl ?_; refine Z05 rfl rfl rfl rfl ?_; refine Z02 ?_; exact Z1t rfl ⟨rfl, rfl⟩ (Z0a _) rfl
        · rintro vs es Es Hx ⟨⟨c3, d3⟩, ⟨b9, f4⟩, -⟩; refine Z0m (D := [(83, vs 1), (84, vs 2)]) rfl ?_; rw [c3, b9]; refine Z7b e0 o9 rfl rfl rfl rfl rfl Z2b Z25 ?_; refine Z02 ?_; exact Z1t rfl ⟨rfl, rfl⟩ (Z0a _) (by show [(83, vs 1), (84, vs 2)] = _; rw [c3, b9])
        · rintro vs es Es Hx hb ⟨⟨c3, d3⟩, ⟨b9, f4⟩, ⟨d5, g0⟩, ⟨e5, h1⟩, -⟩ hHR; obtain rfl : hb = [(some a8, .cells (arr (intC .i64) a3 ([])).toArray 3 (0, 0))] := hHR; refine Z0m (D := [(83, vs 1), (84, vs 2), (88, vs 6), (90, vs 8)]) rfl ?_; rw [c3, b9, d5, e5]; refine Z8n o9 rfl rfl rfl rfl tk0 Z25 ?_; refine Z02 ?_; exact Zjg (hb' := [(some a8, .cells (arr (intC .i64) (a3.set j0.toNat j1) ([])).toArray 3 (0, 0))]) rfl rfl rfl (by repeat (first | exact Z0a _ | exact Z09 | apply Pick.none | refine Z04 (by repeat (first | exact Take.head _ _ | apply Take.tail)) ?_)) (by show [(83, vs 1), (84, vs 2), (88, vs 6), (90, vs 8)] = _; rw [c3, b9, d5, e5])
       · rintro vs es hb ⟨⟨d4, f9⟩, ⟨c3, d3⟩, ⟨b9, f4⟩, ⟨d6, d8⟩, ⟨e1, h0⟩, ⟨e2, e3⟩, ⟨d5, g0⟩, ⟨d7, e4⟩, ⟨e5, h1⟩, h9, -⟩ hHR; obtain rfl : hb = [(some a8, .cells (arr (intC .i64) (a3.set j0.toNat j1) ([])).toArray 3 (0, 0))] := hHR; refine Z0m (D := [(82, vs 0), (83, vs 1), (84, vs 2), (85, vs 3), (86, vs 4), (87, vs 5), (88, vs 6), (89, vs 7), (90, vs 8)]) rfl ?_; refine Z2z (H := [(some a8, .cells (arr (intC .i64) (a3.set j0.toNat j1) ([])).toArray 3 (0, 0)), (some l1, .cells #[.slice (sb d9) n40 c41] 40 (0, 0)), (d9, .cells (arr (intC .i64) m4 l4).toArray 3 (0, 0)), (some a6, .cells #[.int .i64 n0.N, .int .i64 n0.S, .int .i64 n0.T, .slice (sb a2) a4 a5, .slice (some ⟨c9, 0, none⟩) ((r8.getD n0.N.toNat 0).toNat) ((r8.getD n0.N.toNat 0).toNat), .slice (some ⟨a8, 0, none⟩) ((r8.getD n0.N.toNat 0).toNat) ((r8.getD n0.N.toNat 0).toNat), .slice (some ⟨d0, 0, none⟩) ((r8.getD n0.N.toNat 0).toNat) ((r8.getD n0.N.toNat 0).toNat), .slice (some ⟨d1, 0, none⟩) ((r8.getD n0.N.toNat 0).toNat) ((r8.getD n0.N.toNat 0).toNat), .slice (some ⟨b35, 0, none⟩) ((r8.getD n0.N.toNat 0).toNat) ((r8.getD n0.N.toNat 0).toNat)] 64 (0, 0)), (some c9, .cells (arr (intC .i64) f5.Head ([])).toArray 3 (0, 0)), (some d0, .cells (arr (intC .i64) f5.Cap ([])).toArray 2 (0, 0)), (some d1, .cells (arr (intC .i64) f5.Arc ([])).toArray 3 (0, 0)), (some b35, .cells (arr boolC f5.Back ([])).toArray 4 (0, 0)), (some o8, .cells #[.int .i64 ((n0.Arcs.getD a7.toNat default).fr), .int .i64 ((n0.Arcs.getD a7.toNat default).to), .int .i64 ((n0.Arcs.getD a7.toNat default).cap)] 35 (0, 0)), (some b3, .cells #[.int .i64 0, .int .i64 0, .int .i64 0, .slice none 0 0, .slice none 0 0, .slice none 0 0, .slice none 0 0, .slice none 0 0, .slice none 0 0] 64 (0, 0)), (a2, .cells (arr (intC .i64) r8 b7).toArray 3 (0, 0))]) (by show _ ++ (_ ++ (es 0 ++ (es 1 ++ (es 2 ++ (es 3 ++ (es 4 ++ (es 5 ++ (es 6 ++ (es 7 ++ (es 8 ++ (es 9 ++ ([])))))))))))) = _; rw [f9, d3, f4, d8, h0, e3, g0, e4, h1, h9]; rfl) ?_; rw [d4, c3, b9, d6, e1, e2, d5, d7, e5]; clear e5 d7 d5 e2 e1 d6 b9 c3 d4 f9 d3 f4 d8 h0 e3 g0 e4 h1 h9; refine Z7b (List.length_set.trans e0) p0 rfl rfl rfl rfl rfl Z2b Z25 ?_; refine Z8n p0 rfl rfl rfl rfl tk0 Z25 ?_; refine Z02 ?_; refine Z0h ?_; refine Z01 ?_; refine Z0k (Z00 (t := 2) rfl (Z00 (t := 5) rfl (Z00 (t := 8) rfl (Z00 (t := 54) rfl (Z00 (t := 55) rfl (Z00 (t := 56) rfl Z08)))))) ?_; obtain ⟨q5, H⟩ := Z0d H; refine Z03 (ll := [0, 1]) rfl ?_; refine Z18 q5 rfl rfl rfl rfl rfl ?_; refine Z05 rfl rfl rfl rfl ?_; refine Z02 ?_; have H := Z16 H l6; exact Z5n o6 f5.Head ((a3.set j0.toNat j1).set j1.toNat j0) f5.Cap f5.Arc f5.Back m4 (a7 + 1) ⟨H, m6, (List.length_set.trans (List.length_set.trans e0)), m7, m8, m9, m5⟩ (Nat.lt_succ_self _) (Z00 rfl (Z00 rfl (Z00 rfl (Z00 rfl (Z00 rfl (Z00 rfl Z08)))))) (Z04 tk9 (Z04 tk3 (Z04 tk8 (Z04 tk3 (Z04 tk0 (Z04 tk2 (Z04 tk2 (Z04 tk2 (Z04 tk0 (Z04 tk0 Z09))))))))))
     · refine Z15 rfl l7 ?_; refine T.exit ?_; refine Z0j ?_; have H := Z0v H l6 ▸ p9; refine Z0j ?_; refine Z0x ?_; exact Zfs a9 a3 b0 b5 b6 ⟨H, i5, e0, i6, i7, i8⟩ (Z00 rfl (Z00 rfl Z08)) (Z04 tk0 (Z04 tk0 (Z04 tk0 (Z04 tk0 (Z04 tk0 (Z04 tk0 (Z04 tk0 (Z04 tk0 Z09))))))))
    · rintro e7 e8 f0 f2 f3 ⟨H, n5, n6, n7, n8, n9⟩; unfold Z8v at H; refine Z0b ?_; refine Z03 (ll := [0, 1, 2]) rfl ?_; refine Z0q rfl rfl rfl rfl Zg0 mm1 rfl ?_; refine Z1b rfl rfl rfl rfl tk0 Zfv rfl rfl rfl ?_; refine Z06 rfl rfl rfl rfl ?_; refine Z02 ?_; refine Z01 ?_; refine T.ret ?_; obtain ⟨rfl, rfl⟩ := ret2 H; exact Z59 rfl rfl rfl rfl (Z9j rfl Zg0 mm0 rfl) (Res.tmp rfl) (Z04 tk2 (Z04 tk2 (Z04 tk2 (Z04 tk2 (Z04 tk2 (Z04 tk2 Z09)))))) ⟨a2, a4, a5, b7, (some c9), ((r8.getD n0.N.toNat 0).toNat), ((r8.getD n0.N.toNat 0).toNat), ([]), (some a8), ((r8.getD n0.N.toNat 0).toNat), ((r8.getD n0.N.toNat 0).toNat), ([]), (some d0), ((r8.getD n0.N.toNat 0).toNat), ((r8.getD n0.N.toNat 0).toNat), ([]), (some d1), ((r8.getD n0.N.toNat 0).toNat), ((r8.getD n0.N.toNat 0).toNat), ([]), (some b35), ((r8.getD n0.N.toNat 0).toNat), ((r8.getD n0.N.toNat 0).toNat), ([]), rfl, rfl, c4, c7, h8, c8, n5, (Nat.le_refl _), (Z33 _ _), Z1e, n6, (Nat.le_refl _), (Z33 _ _), Z1e, n7, (Nat.le_refl _), (Z33 _ _), Z1e, n8, (Nat.le_refl _), (Z33 _ _), Z1e, n9, (Nat.le_refl _), (Z33 _ _), Z1e⟩
theorem Zdl {c0 : Csr} {c0f3_b : Option Addr} {c0f3_n : Nat} {c0f3_c : Nat} {c0f4_b : Option Addr} {c0f4_n : Nat} {c0f4_c : Nat} {c0f5_b : Option Addr} {c0f5_n : Nat} {c0f5_c : Nat} {c0f6_b : Option Addr} {c0f6_n : Nat} {c0f6_c : Nat} {c0f7_b : Option Addr} {c0f7_n : Nat} {c0f7_c : Nat} {c0f8_b : Option Addr} {c0f8_n : Nat} {c0f8_c : Nat} (w : World) (h_c0f3 : RS w [] (intC .i64) 1 c0f3_b c0f3_n c0f3_c c0.First) (h_c0f4 : RS w [] (intC .i64) 1 c0f4_b c0f4_n c0f4_c c0.Head) (h_c0f5 : RS w [] (intC .i64) 1 c0f5_b c0f5_n c0f5_c c0.Rev) (h_c0f6 : RS w [] (intC .i64) 1 c0f6_b c0f6_n c0f6_c c0.Cap) (h_c0f7 : RS w [] (intC .i64) 1 c0f7_b c0f7_n c0f7_c c0.Arc) (h_c0f8 : RS w [] boolC 1 c0f8_b c0f8_n c0f8_c c0.Back) {r0 : Int} (H : Za8 c0 = some r0) : Fnc Try.prog 83 #[.agg #[.int .i64 c0.N, .int .i64 c0.S, .int .i64 c0.T, .slice c0f3_b c0f3_n c0f3_c, .slice c0f4_b c0f4_n c0f4_c, .slice c0f5_b c0f5_n c0f5_c, .slice c0f6_b c0f6_n c0f6_c, .slice c0f7_b c0f7_n c0f7_c, .slice c0f8_b c0f8_n c0f8_c]] w [] (fun v N => v = .int .i64 r0 ∧ N = []) := by
 unfold Za8 at H; refine Fnc.enter (vs := [.agg #[.int .i64 c0.N, .int .i64 c0.S, .int .i64 c0.T, .slice c0f3_b c0f3_n c0f3_c, .slice c0f4_b c0f4_n c0f4_c, .slice c0f5_b c0f5_n c0f5_c, .slice c0f6_b c0f6_n c0f6_c, .slice c0f7_b c0f7_n c0f7_c, .slice c0f8_b c0f8_n c0f8_c]]) Try.func83 rfl rfl (Inv.refl w) ?_; refine Z0b ?_; refine Z03 (ll := [0, 1]) rfl ?_; refine Z1p rfl rfl rfl rfl ?_; intro b1; refine Z06 rfl rfl rfl rfl ?_; refine Z02 ?_; refine Z01 ?_; refine Z0b ?_; refine Z03 (ll := [0, 1, 2, 3]) rfl ?_; refine Z07 rfl rfl rfl rfl Zd8 ?_; refine Z0e rfl rfl rfl rfl Z7l mm0 rfl ?_; refine Z26 (xs := c0.Head) h_c0f4.len rfl rfl rfl rfl rfl Z2b ?_; refine Z06 rfl rfl rfl rfl ?_; refine Z02 ?_; refine Z01 ?_; refine T.ret ?_; obtain rfl := ret1 H; exact Z10 rfl rfl rfl rfl (Res.tmp rfl) Z09 ⟨rfl, rfl⟩
end Go.Proofs.Ytfdhelnfgfaeaaa.Ax
