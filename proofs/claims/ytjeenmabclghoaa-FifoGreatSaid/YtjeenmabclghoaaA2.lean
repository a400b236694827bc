/- Texts of this claim, one behind the other. -/
import Derived.Test.YtjeenmabclghoaaA1
import Derived.Laws.Bits64b
import Derived.Deep.Slices
import Derived.Deep.Fields
import Derived.ChangeSame
import Derived.Lib.SmallJoins
import Derived.ProofKit
import Derived.ChangeArms
import Derived.RangeFuncSeq
import Derived.Conc.LoneCalls
import Derived.Conc.LoneSelectN
import Derived.Conc.SmallLaws
import Derived.Laws.StructEq
import Derived.Test.YtjeenmabclghoaaChecked
set_option linter.unusedVariables false
set_option linter.unusedSimpArgs false
namespace Go.Acq
open Go
set_option linter.unusedVariables false
def Z20 (r3 : Net) (xs14 : List Arc) (x16 : Int) : Option ((List Arc × Int) ⊕ (List Arc)) :=
  if x16 < (r3.Arcs.length : Int) then
  (gd (inb x16 xs14.length) <|
  gd (i64ok (x16 + 1)) <|
  some (.inl ((xs14.set x16.toNat (Arc.mk ((xs14.getD x16.toNat default).fr) ((xs14.getD x16.toNat default).to) 0)), (x16 + 1))))
  else
  some (.inr xs14)
def Z21 (b82 : Bool) : Option (Bool) :=
  some b82
def Z22 (b78 : Bool) : Option (Bool) :=
  if b78 = true then
  (Option.bind Z1m fun r80 =>
  Z21 r80)
  else
  Z21 false
def Z23 (c1 : Int) (r32 : Answer) (b74 : Bool) : Option (Bool) :=
  if b74 = true then
  (gd (i64ok ((r32.Flow.length : Int) - 1)) <|
  gd (inb ((r32.Flow.length : Int) - 1) r32.Flow.length) <|
  Z22 (decide ((r32.Flow.getD ((r32.Flow.length : Int) - 1).toNat 0) = c1)))
  else
  Z22 false
def Z24 (c1 : Int) (r32 : Answer) (r33 : Work) (b72 : Bool) : Option (Bool) :=
  if b72 = true then
  (Z23 c1 r32 (decide (([r33.Pushes, r33.Lifts] : List Int) = [0, 0])))
  else
  Z23 c1 r32 false
def Z2h (b100 : Bool) : Option (Bool) :=
  some b100
def Z2m (b96 : Bool) : Option (Bool) :=
  if b96 = true then
  (Option.bind Z1m fun r98 =>
  Z2h r98)
  else
  Z2h false
def Z2n (c1 : Int) (r32 : Answer) (b92 : Bool) : Option (Bool) :=
  if b92 = true then
  (gd (i64ok ((r32.Flow.length : Int) - 1)) <|
  gd (inb ((r32.Flow.length : Int) - 1) r32.Flow.length) <|
  Z2m (decide ((r32.Flow.getD ((r32.Flow.length : Int) - 1).toNat 0) = c1)))
  else
  Z2m false
def Z2o (c1 : Int) (r32 : Answer) (r33 : Work) (b90 : Bool) : Option (Bool) :=
  if b90 = true then
  (Z2n c1 r32 (decide (([r33.Pushes, r33.Lifts] : List Int) = [0, 0])))
  else
  Z2n c1 r32 false
def Z2p (c1 : Int) (r3 : Net) (xs20 : List Arc) : Option (Bool) :=
  gd (apok (xs20 ++ ([(Arc.mk r3.S r3.T c1)])).length 24) <|
  Option.bind (Z36 (Net.mk r3.N r3.S r3.T (xs20 ++ ([(Arc.mk r3.S r3.T c1)])))) fun (r32, r33, r34) =>
  Option.bind (Z60 (Net.mk r3.N r3.S r3.T (xs20 ++ ([(Arc.mk r3.S r3.T c1)])))) fun (r58, r59) =>
  if r34 ≠ r59 then
  (some false)
  else
  if 0 ≤ c1 then
  (if (!((decide (r34 = 0)) == (decide (c1 ≤ 4611686018427387904)))) = true then
  (some false)
  else
  if r34 ≠ 0 then
  (gd (i64ok ((r32.Flow.length : Int) + (r32.Side.length : Int))) <|
  if ((r32.Flow.length : Int) + (r32.Side.length : Int)) = 0 then
  (Option.bind Z1m fun r69 =>
  some r69)
  else
  some false)
  else
  if (r32.Flow.length : Int) = ((xs20 ++ ([(Arc.mk r3.S r3.T c1)])).length : Int) then
  (Z24 c1 r32 r33 (decide (r32.Value = c1)))
  else
  Z24 c1 r32 r33 false)
  else
  if (!((decide (r34 = 0)) == false)) = true then
  (some false)
  else
  if r34 ≠ 0 then
  (gd (i64ok ((r32.Flow.length : Int) + (r32.Side.length : Int))) <|
  if ((r32.Flow.length : Int) + (r32.Side.length : Int)) = 0 then
  (Option.bind Z1m fun r87 =>
  some r87)
  else
  some false)
  else
  if (r32.Flow.length : Int) = ((xs20 ++ ([(Arc.mk r3.S r3.T c1)])).length : Int) then
  (Z2o c1 r32 r33 (decide (r32.Value = c1)))
  else
  Z2o c1 r32 r33 false
def Z3b (n0 : Net) (c1 : Int) : Option (Bool) :=
  Option.bind (Z4b n0 12 20) fun r3 =>
  Option.bind (Z2j (fun s => Z20 r3 s.1 s.2) Z4w (r3.Arcs, 0)) fun p1_0_0 => Z2p c1 r3 p1_0_0
end Go.Acq
namespace Go.Acq
open Go Go.RowKit
section rules
variable {C : Cx} {ops : Array Oper} {Q : Exit → Act → World → Prop} {l : List Nat} {E : Env} {H R : Heap} {i d : Nat} {ty : TypeId} {pos : String} {af : Array Edge} {g : Option (Nat × Bool)}
theorem Z0l {c : Code} {E' : Env} (hE : AllF E' E) (h : T C c Q E' H) : T C c Q E H := T.weak h hE.sub (Z07 _)
end rules
end Go.Acq
namespace Go.Acq
open Go Go.RowKit
section rules
variable {C : Cx} {ops : Array Oper} {Q : Exit → Act → World → Prop} {l : List Nat} {E : Env} {H R : Heap} {i d : Nat} {ty : TypeId} {pos : String} {af : Array Edge} {g : Option (Nat × Bool)}
end rules
end Go.Acq
namespace Go.Acq
open Go Go.RowKit Go.ChangeShapes Go.WideShapes Go.Deep Go.Joins
section
variable {H : Type} {enc : TypeId × Value → H} {P : Program} {w : World} {base : Nat} {spare : Nat → Bool} {held : Bool}
theorem Zcm {t e : TypeId} {fs : Array Field} {fuel : Nat} {cs : List Value} {x : DataW H × List MemPlace} (ht : P.underlying t = some (.slice e)) (he : P.underlying e = some (.struct fs))
    (hone : oneCellFields P fs = true) (hC : P.cellsOf e = fs.size) (h : DataW.trod enc P w base spare held fuel t cs = some x) :
    (cs = [.slice none 0 0] ∧ x = (.nil, [])) ∨
    ∃ (a : Addr) (len cap m : Nat) (D : Nat → DataW H) (Pl : Nat → List MemPlace), cs = [.slice (some a) len cap] ∧ base ≤ a.block ∧ len ≤ cap ∧ cap ≤ maxLen ∧ m = (if spare a.block then cap else len) ∧
      x = (.slice ((List.range len).map D) ((List.range (m - len)).map fun j => D (len + j)), MemPlace.row a (m * fs.size) ++ (List.range m).flatMap Pl) ∧
      ∀ i, i < m → ∃ (ys : List (DataW H × List MemPlace)) (n : Nat), D i = .agg (ys.map (·.1)) ∧ Pl i = ys.flatMap (·.2) ∧ ys.length = fs.size ∧
        ∀ (j : Nat) (f : Field), fs[j]? = some f → ∃ (v : Value) (y : DataW H × List MemPlace), w.cell? (a.add (i * fs.size + j)) = some v ∧ ys[j]? = some y ∧ DataW.trod enc P w base spare held n f.type [v] = some y := by
  rcases open_slice ht h with h0 | ⟨a, len, cap, m, n, D, Pl, hcs, hb, hl, hm, hmm, hx, hi⟩
  · exact .inl h0
  · refine .inr ⟨a, len, cap, m, D, Pl, hcs, hb, hl, hm, hmm, by rw [hC] at hx; exact hx, fun i him => ?_⟩
    obtain ⟨cs', hc, ht'⟩ := hi i him
    rw [hC] at hc
    obtain ⟨ys, n', hn', hy, hlen, hyl, hf⟩ := DataW.trod_struct he ht'
    obtain ⟨_, hcl, hat⟩ := World.cells?_some hc
    simp only [Prod.mk.injEq] at hy
    refine ⟨ys, n', hy.1, hy.2, hyl, fun j f hj => ?_⟩
    obtain ⟨ho, hk⟩ := hone_of hone j f hj
    have hjl : j < fs.size := (Array.getElem?_eq_some_iff.1 hj).1
    have hcell := hat j hjl
    have hv : cs'[j]? = some (cs'[j]'(by omega)) := List.getElem?_eq_getElem (by omega)
    have h1 := hf j f hj
    rw [ho, hk] at h1
    have hone' : (cs'.drop j).take 1 = [cs'[j]'(by omega)] := by
      rw [List.drop_eq_getElem_cons (by omega)]
      rfl
    rw [hone'] at h1
    have hys : ys[j]? = some (ys[j]'(by omega)) := List.getElem?_eq_getElem (by omega)
    refine ⟨_, _, ?_, hys, h1.trans hys⟩
    rw [← Go.Deep.add_add, hcell, hv]
end
section
variable {H : Type} {enc : TypeId × Value → H} {P : Program} {w : World} {base : Nat} {spare : Nat → Bool} {held : Bool}
def fitI (x : Int) : Prop := -9223372036854775808 ≤ x ∧ x ≤ 9223372036854775807
theorem Zjd {x : Int} (h : (Lit.int .i64 x).wf = true) : fitI x := by
 unfold fitI; simp [Lit.wf, IntKind.min, IntKind.max, IntKind.signed, IntKind.bits] at h; omega
theorem open_arcs {t e : TypeId} {fs : Array Field} {f0 f1 f2 : Field} {fuel : Nat} {v : Value} {x : DataW H × List MemPlace} (ht : P.underlying t = some (.slice e)) (he : P.underlying e = some (.struct fs)) (hfs : fs = #[f0, f1, f2])
    (hone : oneCellFields P fs = true) (hC : P.cellsOf e = fs.size) (k0 : P.underlying f0.type = some (.int .i64)) (k1 : P.underlying f1.type = some (.int .i64)) (k2 : P.underlying f2.type = some (.int .i64))
    (h : DataW.trod enc P w base spare held fuel t [v] = some x) :
    ∃ (b : Option Addr) (n c : Nat) (al : List Arc), v = .slice b n c ∧ RO w Z7o 3 b n al ∧ n ≤ c ∧ n ≤ 9223372036854775807 ∧ ∀ a, a ∈ al → fitI a.fr ∧ fitI a.to ∧ fitI a.cap := by
  rcases Zcm ht he hone hC h with ⟨hcs, _⟩ | ⟨a, l, c, m, D, Pl, hcs, _, hl, hm, hmm, _, hi⟩
  · injection hcs with h1 _
    exact ⟨none, 0, 0, [], h1, Zoq w (fun _ => rfl), Nat.le_refl _, by omega, fun y hy => by cases hy⟩
  · injection hcs with h1 _
    have hlm : l ≤ m := by rw [hmm]; split <;> omega
    have key : ∀ i, i < l → ∃ q : Arc, w.cell? (a.add (i * 3 + 0)) = some (.int .i64 q.fr) ∧ w.cell? (a.add (i * 3 + 1)) = some (.int .i64 q.to) ∧ w.cell? (a.add (i * 3 + 2)) = some (.int .i64 q.cap) ∧ fitI q.fr ∧ fitI q.to ∧ fitI q.cap := by
      intro i hil
      obtain ⟨ys, n, _, _, _, hf⟩ := hi i (by omega)
      subst hfs
      obtain ⟨v0, y0, c0, _, t0⟩ := hf 0 f0 rfl
      obtain ⟨v1, y1, c1, _, t1⟩ := hf 1 f1 rfl
      obtain ⟨v2, y2, c2, _, t2⟩ := hf 2 f2 rfl
      obtain ⟨n0, e0, _, w0⟩ := DataW.trod_int k0 t0
      obtain ⟨n1, e1, _, w1⟩ := DataW.trod_int k1 t1
      obtain ⟨n2, e2, _, w2⟩ := DataW.trod_int k2 t2
      injection e0 with e0 _; injection e1 with e1 _; injection e2 with e2 _
      subst e0; subst e1; subst e2
      exact ⟨⟨n0, n1, n2⟩, c0, c1, c2, Zjd w0, Zjd w1, Zjd w2⟩
    let g : Nat → Arc := fun i => if hil : i < l then Classical.choose (key i hil) else default
    have hg : ∀ i (hil : i < l), g i = Classical.choose (key i hil) := fun i hil => by simp only [g, dif_pos hil]
    refine ⟨some a, l, c, (List.range l).map g, h1, ⟨by simp, (fun e => by cases e), arcC_len, fun o q ho hq x hx => ?_⟩, hl, by unfold maxLen at hm; omega, fun y hy => ?_⟩
    · simp only [List.length_map, List.length_range] at ho
      have hs := Classical.choose_spec (key o ho)
      rw [← hg o ho] at hs
      have hxo : x = g o := by
        rw [List.getElem?_map, List.getElem?_range ho] at hx
        simpa using hx.symm
      subst hxo
      rcases (show q = 0 ∨ q = 1 ∨ q = 2 by omega) with rfl | rfl | rfl
      · exact hs.1
      · exact hs.2.1
      · exact hs.2.2.1
    · obtain ⟨i, hil, rfl⟩ := List.mem_map.1 hy
      have hil := List.mem_range.1 hil
      have hs := Classical.choose_spec (key i hil)
      rw [← hg i hil] at hs
      exact hs.2.2.2
end
end Go.Acq
namespace Go.Acq
open Go Go.RowKit Go.ChangeShapes Go.WideShapes Go.Deep Go.Joins
theorem i64ok_wf {x : Int} (h : (Lit.int .i64 x).wf = true) : i64ok x := by simp [Lit.wf, IntKind.min, IntKind.max, IntKind.signed, IntKind.bits] at h; omega
section
variable {H : Type} {enc : TypeId × Value → H} {P : Program} {w : World} {base : Nat} {spare : Nat → Bool} {held : Bool}
end
end Go.Acq
namespace Go.Acq
open Go Go.RowKit
abbrev SM := Option Addr × Nat × Nat
def smC (m : SM) : List Value := [.slice m.1 m.2.1 m.2.2]
structure RW {α : Type} (w : World) (M : List Nat) (f : α → List Value) (s : Nat) (base : Option Addr) (n c : Nat) (ms : List SM) (xss : List (List α)) : Prop where
  rs : RS w M smC 1 base n c ms
  eqlen : ms.length = xss.length
  row : ∀ i, i < ms.length → RS w M f s (ms.getD i default).1 (ms.getD i default).2.1 (ms.getD i default).2.2 (xss.getD i [])
section
variable {α : Type} {w w0 : World} {M M' : List Nat} {f : α → List Value} {s n c : Nat} {base : Option Addr} {ms : List SM} {xss : List (List α)} {H Hm R : Heap}
theorem RW.len (h : RW w M f s base n c ms xss) : xss.length = n := by rw [← h.eqlen]; exact h.rs.len
theorem RW.cap (h : RW w M f s base n c ms xss) : n ≤ c := h.rs.cap
theorem RW.nil (w : World) (M : List Nat) : RW w M f s none 0 0 [] ([] : List (List α)) := ⟨RS.nil _ _ (fun _ => rfl), rfl, fun i hi => by simp at hi⟩
theorem RW.mono (h : RW w0 M f s base n c ms xss) (hi : Inv w0 M w H) : RW w [] f s base n c ms xss := ⟨h.rs.mono hi, h.eqlen, fun i hl => (h.row i hl).mono hi⟩
theorem RW.monoM (h : RW w0 M f s base n c ms xss) (hs : 0 < s) (hi : Inv w0 M w H) (hp : List.Perm H (Hm ++ R)) (hM : Hm.filterMap (·.1) = M') : RW w M' f s base n c ms xss :=
 ⟨h.rs.monoM (by decide) hi hp hM, h.eqlen, fun i hl => (h.row i hl).monoM hs hi hp hM⟩
theorem Zi3 {α : Type} {xs : List α} {d : α} {i k : Nat} (h : i < k) : (xs.take k).getD i d = xs.getD i d := by
 simp [List.getD_eq_getElem?_getD, List.getElem?_take, h]
theorem Zi4 {α : Type} {xs : List α} {d : α} {i k : Nat} : (xs.drop k).getD i d = xs.getD (k + i) d := by
 simp [List.getD_eq_getElem?_getD]
theorem RW.take (h : RW w M f s base n c ms xss) {p : Int} (hp : 0 ≤ p ∧ p ≤ (xss.length : Int)) : RW w M f s base p.toNat c (ms.take p.toNat) (xss.take p.toNat) :=
 ⟨h.rs.take (by rw [h.eqlen]; exact hp), by rw [List.length_take, List.length_take, h.eqlen], fun i hi => by
  rw [List.length_take] at hi
  rw [Zi3 (by omega), Zi3 (by omega)]; exact h.row i (by omega)⟩
theorem RW.drop (h : RW w M f s base n c ms xss) {p : Int} (hp : 0 ≤ p ∧ p ≤ (xss.length : Int)) : RW w M f s (lowB base p.toNat c 1) (n - p.toNat) (c - p.toNat) (ms.drop p.toNat) (xss.drop p.toNat) :=
 ⟨h.rs.drop (by rw [h.eqlen]; exact hp), by rw [List.length_drop, List.length_drop, h.eqlen], fun i hi => by
  rw [List.length_drop] at hi
  rw [Zi4, Zi4]; exact h.row _ (by omega)⟩
theorem RW.at (h : RW w M f s base n c ms xss) {p : Int} (hp : inb p xss.length) : RS w M f s (ms.getD p.toNat default).1 (ms.getD p.toNat default).2.1 (ms.getD p.toNat default).2.2 (xss.getD p.toNat []) :=
 h.row _ (by rw [h.eqlen]; exact Zan hp)
theorem RW.inb (h : RW w M f s base n c ms xss) {p : Int} (hp : inb p xss.length) : inb p ms.length := by rw [h.eqlen]; exact hp
end
section rules
variable {C : Cx} {ops : Array Oper} {Q : Exit → Act → World → Prop} {l : List Nat} {E : Env} {H R : Heap} {i d : Nat} {ty : TypeId} {pos : String} {af : Array Edge} {g : Option (Nat × Bool)}
end rules
open Go.ChangeShapes Go.WideShapes Go.Deep Go.Joins
section
variable {H : Type} {enc : TypeId × Value → H} {P : Program} {w : World} {base : Nat} {spare : Nat → Bool} {held : Bool}
end
end Go.Acq
namespace Go.Acq
open Go Go.RowKit
end Go.Acq
namespace Go.Acq
open Go Go.RowKit
end Go.Acq
namespace Go.Acq
open Go Go.RowKit Go.ChangeShapes Go.WideShapes Go.Deep Go.Joins
section
variable {H : Type} {enc : TypeId × Value → H} {P : Program} {w : World} {base : Nat} {spare : Nat → Bool} {held : Bool}
end
end Go.Acq
namespace Go.Acq
open Go Go.RowKit
abbrev ids (H : Heap) : List Nat := H.filterMap (·.1)
abbrev mkD (r : Nat) : Deferred := { target := .collected r, args := #[] }
abbrev mkO : Obj := .deferred (some [])
def markH : List Nat → Heap
  | [] => []
  | r :: ms => (some r, mkO) :: markH ms
section
variable {w0 w w' w'' : World} {M M' : List Nat} {H H' Hm R : Heap} {b : Nat} {o o' : Obj}
theorem Pick.skip {p : Option Nat × Obj} (h : Pick H' H) : Pick H' (p :: H) := by
 obtain ⟨S, ns, hn, hS⟩ := h
 refine ⟨p :: S, ns, hn, ?_⟩
 rw [List.cons_append]
 exact (List.Perm.cons p hS).trans List.perm_middle.symm
theorem Inv.put (h : Inv w0 M w ((some b, o) :: R)) (o' : Obj) : Inv w0 M (w.putObj b o') ((some b, o') :: R) :=
 h.upd (Take.head _ _) rfl rfl rfl World.putObj_size (World.putObj_heap_same (h.lt (.head _))) (fun _ hk => World.putObj_heap_other hk)
theorem HB.monoM {cs : List Value} (h : HB w0 M b cs) (hne : cs ≠ []) (hi : Inv w0 M w H) (hp : List.Perm H (Hm ++ R)) (hM : Hm.filterMap (·.1) = M') : HB w M' b cs :=
 ⟨fun j v hj => hi.cell_old (h.has j v hj) h.far, fun hm => by
  subst hM
  obtain ⟨o, ho⟩ := Z83 hm
  obtain ⟨v, cs', rfl⟩ := List.exists_cons_of_ne_nil hne
  have h0 := h.has 0 v rfl
  have hb : b < w0.heap.size := by
   unfold World.cell? at h0
   split at h0
   · rename_i he; exact (Array.getElem?_eq_some_iff.1 he).1
   · cases h0
  rcases hi.low b o ((List.Perm.mem_iff hp).2 (List.mem_append_left _ ho)) with hl | hl
  · omega
  · exact h.far hl⟩
end
def YC {S X V : Type} (P : Program) (l : Nat) (enc : V → List Value) (y : S → V → Option (S ⊕ X)) (J : S ⊕ X → Heap → Prop) (w : World) (M : List Nat) : Prop :=
  ∀ (s : S) (v : V) (r : S ⊕ X), y s v = some r → ∀ (w' : World) (Hs : Heap), J (.inl s) Hs → Inv w M w' Hs →
    YieldAt (FW none) 0 P l (enc v).toArray w' fun e w'' => ∃ Hs', J r Hs' ∧ e = .returned (.bool r.isLeft) ∧ Inv w' (ids Hs) w'' Hs'
section rules
variable {C : Cx} {ops : Array Oper} {Q : Exit → Act → World → Prop} {l : List Nat} {E : Env} {H R : Heap} {i d : Nat} {ty : TypeId} {pos : String} {af : Array Edge} {g : Option (Nat × Bool)}
theorem TO.yield {S X V : Type} {lp : Nat} {enc : V → List Value} {y : S → V → Option (S ⊕ X)} {J : S ⊕ X → Heap → Prop} {x : Operand} {xs : Array Operand} {at' : Array TypeId} {t r : S ⊕ X} {v : V} {Ho Hs : Heap}
    (hρ : C.ρ = none) (hY : YC C.P lp enc y J C.w0 C.M) (hr : Zm7 y t v = some r) (hJ : J t Hs)
    (ho : ops[i]? = some ⟨some d, .call ⟨.value x, xs, at'⟩, ty, pos, af, g⟩) (hg : gdB ops E g = true) (hd : Nat.ble (d + 1) C.n = true)
    (hx : ev E x = some (.func (.yield lp) #[] #[])) (hxs : evs E xs.toList = some (enc v)) (hH : H = Ho ++ Hs)
    (kk : ∀ Hs', J r Hs' → TO C ops Q l ((d, .bool r.isLeft) :: E) (Ho ++ Hs')) : TO C ops Q (i :: l) E H := by
  obtain ⟨s, rfl, hys⟩ := Zj0 hr
  refine Zgg ho hg (by simp) fun a w hf hi => ?_
  subst hH
  have hp : List.Perm (Ho ++ Hs) (Hs ++ Ho) := List.perm_append_comm
  have hi' := hi.perm hp
  obtain ⟨fn, tmps, assign, body, hrun, hround⟩ := hY s v r hys w Hs hJ hi'.left
  have e1 : xs.map a.eval = (enc v).toArray := by apply Array.ext'; simpa using Z8y hf hxs
  have : (execOp a.eval ⟨some d, .call ⟨.value x, xs, at'⟩, ty, pos, af, g⟩).run C.P w = .ok (.round lp fn tmps assign body) w := by
    simp [execOp, resolve, Deferred.ofValue, invoke, hf.ev hx, e1, hrun]
  rw [this]
  rw [Oper.uponIn_round]
  rw [hρ]
  refine ⟨by simp [FW], hround.mono ?_⟩
  rintro e w' ⟨Hs', hJ', rfl, hi2⟩
  have hk := kk Hs' hJ'
  unfold TO at hk
  rw [hρ] at hk
  exact hk _ _ (hf.put hd _) (((hi'.join (List.Perm.refl _) (fun m hm => hm) hi2)).perm List.perm_append_comm)
end rules
abbrev recO (fn : FuncId) (tmps : Array Value) (ps : Array Tmp) (assign body : Code) (df : Nat) (st : LoopState) (pd : Option Code) : Obj :=
  .loop { state := st, pending := pd, fn, tmps, params := ps, assign, body, defers := df }
def RQ {S X : Type} (J : S ⊕ X → Heap → Prop) (jmp : X → Code) (r : S ⊕ X) (w0 : World) (M : List Nat) : Exit → Act → World → Prop
  | .normal, _, w => ∃ s Hs, r = .inl s ∧ J (.inl s) Hs ∧ Inv w0 M w Hs
  | .ret, _, w => ∃ x Hs, r = .inr x ∧ jmp x = .ret ∧ J (.inr x) Hs ∧ Inv w0 M w Hs
  | .exit id, _, w => ∃ x Hs, r = .inr x ∧ jmp x = .exit id ∧ J (.inr x) Hs ∧ Inv w0 M w Hs
  | _, _, _ => False
def putPs : List Tmp → List Value → Env → Env
  | [], _, E => E
  | _ :: _, [], E => E
  | p :: ps, v :: vs, E => putPs ps vs ((p, v) :: E)
theorem Zfy {n : Nat} : ∀ {ps : List Tmp} {vs : List Value} {E : Env} {tmps : Array Value} (_ : ps.all (fun p => Nat.ble (p + 1) n) = true), Fits n [] E { tmps, defers := [] } →
    Fits n [] (putPs ps vs E) { tmps := (ps.zip vs).foldl (fun tmps (t, a) => tmps.setIfInBounds t a) tmps, defers := [] }
  | [], _, _, _, _, h => h
  | _ :: _, [], _, _, _, h => h
  | p :: ps, v :: vs, E, tmps, hb, h => by
    have hb' : Nat.ble (p + 1) n = true ∧ (ps.all fun p => Nat.ble (p + 1) n) = true := by simpa only [List.all_cons, Bool.and_eq_true] using hb
    have := h.put hb'.1 v
    exact Zfy (ps := ps) (vs := vs) hb'.2 this
section control
variable {C : Cx} {Q : Exit → Act → World → Prop} {E : Env} {H : Heap}
def AQ (n : Nat) (w0 : World) (M : List Nat) (E1 : Env) (H1 : Heap) : Exit → Act → World → Prop := fun e a w => e = .normal ∧ Fits n [] E1 a ∧ Inv w0 M w H1
theorem X.asg {ρ : Option Nat} {P : Program} {n : Nat} {w0 : World} {M : List Nat} {E1 : Env} {H1 : Heap} (hE : AllF E1 E) (hH : Pick H1 H) : X ⟨P, ρ, n, [], w0, M⟩ (AQ n w0 M E1 H1) .normal E H :=
 fun _ _ hf hi => ⟨rfl, hf.weak hE.sub, hi.pick hH⟩
theorem X.rfNext {ρ : Option Nat} {P : Program} {n : Nat} {D : List Deferred} {S X : Type} {J : S ⊕ X → Heap → Prop} {jmp : X → Code} {r : S ⊕ X} {w0 : World} {M : List Nat} {s : S} {Hs : Heap} (h : some (Sum.inl s) = some r) (hJ : J (.inl s) Hs) (hp : Pick Hs H) :
    Acq.X ⟨P, ρ, n, D, w0, M⟩ (RQ J jmp r w0 M) .normal E H := fun _ _ _ hi => ⟨s, Hs, by injection h with h; exact h.symm, hJ, hi.pick hp⟩
theorem T.rangeFunc {S X V : Type} (hρ : C.ρ = none) {gop : Operand} {ps : Array Tmp} {assign body : Code} {f : FuncId} {fs cs : Array Value} (hF : Z0q C.P f = true) (hg : ev E gop = some (.func (.func f) fs cs))
    (hps : ps.toList.all (fun p => Nat.ble (p + 1) C.n) = true) (enc : V → List Value) (henc : ∀ v, (enc v).length = ps.size)
    (y : S → V → Option (S ⊕ X)) (J : S ⊕ X → Heap → Prop) (jmp : X → Code) (s0 : S) (t : S ⊕ X) (Hs0 R : Heap) (hJ : J (.inl s0) Hs0) (hH : Pick (Hs0 ++ R) H)
    (it : ∀ (lp : Nat) (w : World) (J' : S ⊕ X → Heap → Prop) (H0 : Heap), J' (.inl s0) H0 → Inv w (ids H0) w H0 → YC C.P lp enc y J' w (ids H0) → ∀ lo, Inv C.w0 C.M w (((some lp, lo) :: Hs0) ++ R) → H0 = (some lp, lo) :: Hs0 →
      Fnc C.P f (fs ++ #[.func (.yield lp) #[] #[]] ++ cs) w (ids H0) (fun v N => v = .tuple #[] ∧ J' t N))
    (round : ∀ (lp : Nat) (w' : World) (s : S) (v : V) (r : S ⊕ X) (Hs : Heap), y s v = some r → J (.inl s) Hs → Inv w' (ids Hs) w' Hs → Inv C.w0 C.M w' (Hs ++ R) →
      ∃ (E1 : Env) (H1 : Heap), T ⟨C.P, some lp, C.n, [], w', ids Hs⟩ assign (AQ C.n w' (ids Hs) E1 H1) (putPs ps.toList (enc v) E) Hs ∧
        ∀ w2, Inv w2 (ids H1) w2 H1 → Inv C.w0 C.M w2 (H1 ++ R) → T ⟨C.P, some lp, C.n, [], w2, ids H1⟩ body (RQ J jmp r w2 (ids H1)) E1 H1)
    (next : ∀ s, t = .inl s → ∀ rr Hs, J (.inl s) Hs → Acq.X { C with D := mkD rr :: C.D } Q .normal E (Hs ++ ((some rr, mkO) :: R)))
    (exit : ∀ x, t = .inr x → ∀ rr Hs, J (.inr x) Hs → T { C with D := mkD rr :: C.D } (jmp x) Q E (Hs ++ ((some rr, mkO) :: R))) :
    T C (.rangeFunc gop ps assign body) Q E H := by
  intro a w hf hi0
  have hi := hi0.pick hH
  refine wpIn_rangeFunc fun fn _ => ?_
  have hFW : (FW C.ρ).round = none := by rw [hρ]; rfl
  rw [hFW]
  obtain ⟨rr, hrr⟩ : ∃ rr, w.heap.size = rr := ⟨_, rfl⟩
  obtain ⟨wa, hwa⟩ : ∃ wa, w.alloc mkO = wa := ⟨_, rfl⟩
  obtain ⟨lp, hlp⟩ : ∃ lp, wa.heap.size = lp := ⟨_, rfl⟩
  obtain ⟨lo, hlo⟩ : ∃ lo, recO fn a.tmps ps assign body rr .ready none = lo := ⟨_, rfl⟩
  obtain ⟨wb, hwb⟩ : ∃ wb, wa.alloc lo = wb := ⟨_, rfl⟩
  have hia : Inv C.w0 C.M wa ((some rr, mkO) :: (Hs0 ++ R)) := by rw [← hwa, ← hrr]; exact hi.alloc mkO
  have hib : Inv C.w0 C.M wb ((some lp, lo) :: (some rr, mkO) :: (Hs0 ++ R)) := by rw [← hwb, ← hlp]; exact hia.alloc lo
  have hlp2 : w.heap.size + 1 = lp := by rw [← hlp, ← hwa]; exact (World.size_alloc ..).symm
  have hib' : Inv C.w0 C.M wb (((some lp, lo) :: Hs0) ++ ((some rr, mkO) :: R)) := hib.perm (by
    rw [List.cons_append]
    exact List.Perm.cons _ List.perm_middle.symm)
  refine ⟨lp, [mkD rr], wb, { target := .fn (.func f) cs, args := fs.push (.func (.yield lp) #[] #[]) }, wb, f, fs ++ #[.func (.yield lp) #[] #[]] ++ cs, wb, ?_, ?_, fun _ _ => trivial, ?_, by simp [FW], ?_⟩
  · rw [run_enterLoop_outer, ← hwb, ← hlo, ← hwa, ← hlp2, ← hrr]
  · have h2 : a.eval gop = .func (.func f) fs cs := hf.ev hg
    have h3 : ∀ v, a.eval (.const v) = v := fun _ => rfl
    simp [resolve, Deferred.ofValue, h2, h3]
  · show (callFunc f (fs.push (.func (.yield lp) #[] #[]) ++ cs)).run C.P wb = _
    rw [Array.push_eq_append]
    exact Z7a hF _ _
  · refine callsIn_FW.2 ?_
    have hlrec : ∀ {w' : World} {M'' : List Nat} {o : Obj} {Hs : Heap}, Inv wb M'' w' ((some lp, o) :: Hs) → w'.heap[lp]? = some o := fun h => h.own lp _ (.head _)
    have hcall := it lp wb (fun r Hx => ∃ Hs, Hx = (some lp, recO fn a.tmps ps assign body rr (match r with | .inl _ => LoopState.ready | .inr _ => LoopState.done) (match r with | .inl _ => none | .inr x => some (jmp x))) :: Hs ∧ J r Hs) ((some lp, lo) :: Hs0)
      ⟨Hs0, by rw [← hlo], hJ⟩ (hib'.left.self (Z07 _) rfl) ?_ lo (hib'.pick (by
        refine Z91 (S := [(some rr, mkO)]) ?_
        rw [List.append_assoc]
        exact List.Perm.append_left _ (List.perm_append_singleton _ _).symm)) rfl
    · refine Calls.mono hcall ?_
      rintro e w3 ⟨v, N, ⟨rfl, Hs3, rfl, hJ3⟩, rfl, hi3⟩
      have hj3 := hib'.join (M' := ids ((some lp, lo) :: Hs0)) (List.Perm.refl _) (fun m hm => hm) hi3
      have hl3 := hj3.own lp _ (.head _)
      have hput := hj3.put (recO fn a.tmps ps assign body rr .exhausted (match t with | .inl _ => none | .inr x => some (jmp x)))
      have hfa : Fits C.n (mkD rr :: C.D) E { a with defers := [mkD rr] ++ a.defers } := ⟨hf.size, by simp [hf.defers], hf.get⟩
      have hpk : Pick (Hs3 ++ ((some rr, mkO) :: R)) ((some lp, recO fn a.tmps ps assign body rr .exhausted (match t with | .inl _ => none | .inr x => some (jmp x))) :: (Hs3 ++ ((some rr, mkO) :: R))) := Pick.skip (Z07 _)
      cases t with
      | inl s =>
        refine ⟨none, _, run_endLoop hl3 (by simp), ?_⟩
        exact next s rfl rr Hs3 hJ3 _ _ hfa (hput.pick hpk)
      | inr x =>
        refine ⟨some (jmp x), _, run_endLoop hl3 (by simp), ?_⟩
        exact exit x rfl rr Hs3 hJ3 _ _ hfa (hput.pick hpk)
    · rintro s v r hys w' Hx ⟨Hs, rfl, hJs⟩ hi'
      have hlw := hlrec hi'
      have hout := hib'.join (M' := ids ((some lp, lo) :: Hs0)) (List.Perm.refl _) (fun m hm => hm) hi'
      have hself := hi'.self (Hm := Hs) (Pick.skip (Z07 _)) rfl
      have houtH : Inv C.w0 C.M w' (Hs ++ R) := hout.pick (by
        refine Pick.skip ?_
        refine Z91 (S := [(some rr, mkO)]) ?_
        rw [List.append_assoc]
        exact List.Perm.append_left _ (List.perm_append_singleton _ _).symm)
      obtain ⟨E1, H1, hasg, hbody⟩ := round lp w' s v r Hs hys hJs hself houtH
      refine ⟨_, _, _, _, run_yield hlw (by simp [henc]), ?_⟩
      refine roundIn_of_wpIn trivial ?_
      have hf0 : Fits C.n [] E { tmps := a.tmps, defers := [] } := ⟨hf.size, rfl, hf.get⟩
      have hf1 := Zfy (vs := enc v) hps hf0
      have hw0 := hasg _ w' hf1 hself
      have hrw : (ps.zip (enc v).toArray).foldl (fun tmps (t, a) => tmps.setIfInBounds t a) a.tmps = (ps.toList.zip (enc v)).foldl (fun tmps (t, a) => tmps.setIfInBounds t a) a.tmps := by
        rw [← Array.foldl_toList]; simp
      rw [hrw]
      refine wpIn_mono (F := FW (some lp)) hw0 ?_
      rintro e a1 w1 ⟨rfl, hfa, hia1⟩
      have hall := (hi'.self (Z07 _) rfl)
      have hall1 := hall.join (Hm := Hs) (R := [(some lp, recO fn a.tmps ps assign body rr .ready none)]) (M' := ids Hs) ((List.perm_append_singleton _ _).symm) (fun m hm => hm) hia1
      have hall1 := hall1.perm (List.perm_append_singleton _ _)
      have hl1 := hall1.own lp _ (.head _)
      refine ⟨_, run_beginRound hl1 rfl, ?_⟩
      have hb1 := hall1.put (recO fn a.tmps ps assign body rr .busy none)
      have hout1 := hout.join (M' := ids ((some lp, recO fn a.tmps ps assign body rr .ready none) :: Hs)) (List.Perm.refl _) (fun m hm => hm) hall1
      have hout2 := hout1.put (recO fn a.tmps ps assign body rr .busy none)
      have hs2 := hb1.self (Hm := H1) (Pick.skip (Z07 _)) rfl
      have hwp := hbody _ hs2 (hout2.pick (by
        refine Pick.skip ?_
        refine Z91 (S := [(some rr, mkO)]) ?_
        rw [List.append_assoc]
        exact List.Perm.append_left _ (List.perm_append_singleton _ _).symm)) a1 _ hfa hs2
      refine wpIn_mono (F := FW (some lp)) hwp ?_
      intro e a3 w3 hq
      have fin : ∀ (Hs' : Heap), Inv (w1.putObj lp (recO fn a.tmps ps assign body rr .busy none)) (ids H1) w3 Hs' → w3.heap[lp]? = some (recO fn a.tmps ps assign body rr .busy none) ∧
          ∀ o, Inv w' (ids ((some lp, recO fn a.tmps ps assign body rr .ready none) :: Hs)) (w3.putObj lp o) ((some lp, o) :: Hs') := by
        intro Hs' h
        have h2 := hb1.join (Hm := H1) (R := [(some lp, recO fn a.tmps ps assign body rr .busy none)]) (M' := ids H1) ((List.perm_append_singleton _ _).symm) (fun m hm => hm) h
        have h2 := h2.perm (List.perm_append_singleton _ _)
        exact ⟨h2.own lp _ (.head _), fun o => h2.put o⟩
      cases e with
      | normal =>
        obtain ⟨s', Hs', rfl, hJ', hi3⟩ := hq
        obtain ⟨h3, h4⟩ := fin Hs' hi3
        exact ⟨_, _, run_endRound none h3, _, ⟨Hs', rfl, hJ'⟩, rfl, h4 _⟩
      | ret =>
        obtain ⟨x, Hs', rfl, hj, hJ', hi3⟩ := hq
        obtain ⟨h3, h4⟩ := fin Hs' hi3
        refine ⟨_, _, run_endRound (some .ret) h3, _, ⟨Hs', rfl, hJ'⟩, rfl, ?_⟩
        simp only [hj]; exact h4 _
      | exit id =>
        obtain ⟨x, Hs', rfl, hj, hJ', hi3⟩ := hq
        obtain ⟨h3, h4⟩ := fin Hs' hi3
        refine ⟨_, _, run_endRound (some (.exit id)) h3, _, ⟨Hs', rfl, hJ'⟩, rfl, ?_⟩
        simp only [hj]; exact h4 _
      | goto _ => exact hq.elim
      | panic _ => exact hq.elim
      | outgrown => exact hq.elim
end control
section ends
variable {C : Cx} {E : Env} {H H' N : Heap}
theorem Zd9 {P : Program} {fn : Func} {tmps : Array Value} {R : Ending → World → Prop} {w0 : World} {M : List Nat} : ∀ (ms : List Nat) (w : World), Inv w0 M w (markH ms ++ H') →
    (∀ w', Inv w0 M w' H' → LeavesIn (FW none) 0 P fn tmps R [] .returning w') → LeavesInM (FW none) 0 P fn tmps R (ms.map mkD) .returning w
  | [], w, hi, h => h w hi
  | r :: ms, w, hi, h => by
    refine ⟨by simp, .inl ⟨r, _, rfl, run_takeDeferred (hi.own r _ (.head _)), Zd9 ms _ ?_ h⟩⟩
    exact (Inv.put hi (.deferred none)).pick (Pick.skip (Z07 _))
theorem X.retM {fn : Func} {rs : List ResultVar} {vs : List Value} {v : Value} {w0 : World} {M : List Nat} {Post : Value → Heap → Prop} (ms : List Nat) (hρ : C.ρ = none) (hw : C.w0 = w0) (hMM : C.M = M) (hD : C.D = ms.map mkD) (hfn : fn.results.toList = rs)
    (hH : Pick (markH ms ++ H') H) (hr : ∀ (j : Nat) r u, rs[j]? = some r → vs[j]? = some u → Res { C with D := [] } E H' r u) (hl : rs.length = vs.length) (hv : v = Zms vs)
    (hN : Pick N H') (hP : Post v N) : Acq.X C (bodyPostM (FW none) 0 C.P fn (Zor w0 M Post)) .ret E H := by
  intro a w hf hi
  show LeavesInM (FW none) 0 C.P fn a.tmps (Zor w0 M Post) a.defers .returning w
  rw [hf.defers, hD]
  refine Zd9 ms w (hi.pick hH) fun w' hi' => ?_
  have hx := X.ret (C := { C with D := [] }) (fn := fn) (Post := Post) hw hMM rfl hfn hr hl hv hN hP { a with defers := [] } w' ⟨hf.size, rfl, hf.get⟩ hi'
  exact hx.2
theorem X.retM1 {fn : Func} {r : ResultVar} {v : Value} {w0 : World} {M : List Nat} {Post : Value → Heap → Prop} (ms : List Nat) (hρ : C.ρ = none) (hw : C.w0 = w0) (hMM : C.M = M) (hD : C.D = ms.map mkD) (hfn : fn.results.toList = [r]) (hH : Pick (markH ms ++ H') H) (hr : Res { C with D := [] } E H' r v) (hN : Pick N H') (hP : Post v N) :
    Acq.X C (bodyPostM (FW none) 0 C.P fn (Zor w0 M Post)) .ret E H :=
  X.retM (vs := [v]) ms hρ hw hMM hD hfn hH (fun j r' u h1 h2 => by
    cases j with
    | zero => simp at h1 h2; subst h1; subst h2; exact hr
    | succ j => simp at h1) rfl rfl hN hP
theorem Zm5 {P : Program} {f : FuncId} {fn : Func} {c : Code} {vs : List Value} {w : World} {M : List Nat} {H : Heap} {Post : Value → Heap → Prop}
    (hf : P.funcs[f]? = some fn) (hb : fn.body = some c) (hn : Nat.ble vs.length fn.ntmps = true) (hi : Inv w M w H)
    (h : T ⟨P, none, fn.ntmps, [], w, M⟩ c (bodyPostM (FW none) 0 P fn (Zor w M Post)) (Zef 0 vs) H) : Fnc P f vs.toArray w M Post := by
  have hn' := Nat.le_of_ble_eq_true hn
  refine callsIn_FW (ρ := none) (n := 0) |>.1 (callsIn_of_wp_marks hf hb trivial ?_ rfl)
  refine h _ w ⟨by simp; omega, rfl, fun t v hv => ?_⟩ hi
  obtain ⟨_, h2⟩ := Z9y vs 0 t v hv
  rw [Nat.sub_zero] at h2
  have hlt := (List.getElem?_eq_some_iff.1 h2).1
  simp only [Array.getD_eq_getD_getElem?]
  rw [Array.getElem?_append_left (by simpa using hlt)]
  simp [h2]
end ends
end Go.Acq
namespace Go.Acq
open Go Go.RowKit
theorem X.reheap {C : Cx} {Q : Exit → Act → World → Prop} {e : Exit} {E : Env} {H H' : Heap} (h : H' = H) (k : X C Q e E H) : X C Q e E H' := by rw [h]; exact k
end Go.Acq
namespace Go.Acq
open Go Go.RowKit
theorem Zdc {C : Cx} {P : Program} {fn : Func} {R : Ending → World → Prop} {E : Env} {H : Heap} (h : X C (bodyPost P fn R) .ret E H) : X C (bodyPost P fn R) .normal E H := h
end Go.Acq
namespace Go.Acq
open Go Go.RowKit
section
variable {C : Cx} {ops : Array Oper} {Q : Exit → Act → World → Prop} {l l2 : List Nat} {E E' : Env} {H H' : Heap}
def JQ (C : Cx) (Q : Exit → Act → World → Prop) (d : Nat) (φ : Bool → Prop) (E : Env) (H : Heap) : Exit → Act → World → Prop
  | .normal, a, w => ∃ b, φ b ∧ Fits C.n C.D ((d, .bool b) :: E) a ∧ Inv C.w0 C.M w H
  | e, a, w => Q e a w
theorem Zm9 {ρ : Option Nat} {P : Program} {Q' : Exit → Act → World → Prop} {i : Nat} {K K' : Act → World → Prop} {a : Act} {w : World} (hq : ∀ e a w, e ≠ .normal → Q' e a w → Q e a w) (hk : ∀ a w, K' a w → K a w)
    (h : wpOpIn (FW ρ) 0 P ops Q' i K' a w) : wpOpIn (FW ρ) 0 P ops Q i K a w := by
  refine wpOpIn_mono hk ?_
  unfold wpOpIn at h ⊢
  cases ho : ops[i]? with
  | none => rw [ho] at h; exact h
  | some o =>
    rw [ho] at h
    simp only at h ⊢
    split
    · rename_i hwt
      simp only [hwt, if_true] at h
      refine ⟨h.1, ?_⟩
      have h2 := h.2
      generalize (o.semAt (FW ρ).round a.eval).run P w = r at h2 ⊢
      cases r with
      | ok x w' =>
        cases x with
        | enter f args => exact ⟨h2.1, CallsIn.mono h2.2 (fun e w' hh => by cases e with
          | returned v => exact hh
          | panicked c => exact hq _ _ _ (by simp) hh
          | outgrown => obtain ⟨a0, w0, h0⟩ := hh; exact ⟨a0, w0, hq _ _ _ (by simp) h0⟩)⟩
        | row _ => exact h2
        | round l f tmps assign body => exact ⟨h2.1, RoundIn.mono h2.2 (fun e w' hh => by cases e with
          | returned v => exact hh
          | panicked c => exact hq _ _ _ (by simp) hh
          | outgrown => obtain ⟨a0, w0, h0⟩ := hh; exact ⟨a0, w0, hq _ _ _ (by simp) h0⟩)⟩
        | _ => exact h2
      | halt x w' => cases x <;> first | exact h2 | exact hq _ _ _ (by simp) h2
    · rename_i hwt
      simp only [hwt, if_false, Bool.false_eq_true] at h
      exact h
theorem Zay {ρ : Option Nat} {P : Program} {Q' : Exit → Act → World → Prop} {l2 : List Nat} (hq : ∀ e a w, e ≠ .normal → Q' e a w → Q e a w) (hn : ∀ a w, Q' .normal a w → wpOpsIn (FW ρ) 0 P ops Q l2 a w) : ∀ (l1 : List Nat) (a : Act) (w : World), wpOpsIn (FW ρ) 0 P ops Q' l1 a w → wpOpsIn (FW ρ) 0 P ops Q (l1 ++ l2) a w
 | [], a, w, h => hn a w h
 | i :: l1, a, w, h => by
  rw [List.cons_append, wpOpsIn_cons]
  rw [wpOpsIn_cons] at h
  exact Zm9 hq (fun a w => Zay hq hn l1 a w) h
theorem TO.join (l1 l2 : List Nat) (hl : l1 ++ l2 = l) (d : Nat) (φ : Bool → Prop) (E' : Env) (h1 : TO C ops (JQ C Q d φ E' H) l1 E H) (h2 : ∀ b, φ b → TO C ops Q l2 ((d, .bool b) :: E') H) : TO C ops Q l E H := by
 subst hl
 intro a w hf hi
 refine Zay (Q' := JQ C Q d φ E' H) (fun e a w hne h => ?_) (fun a w h => ?_) l1 a w (h1 a w hf hi)
 · cases e <;> first | exact absurd rfl hne | exact h
 ·
  obtain ⟨b, hb, hfit, hinv⟩ := h
  exact h2 b hb a w hfit hinv
theorem Zdb {d : Nat} {φ : Bool → Prop} {b : Bool} (h : φ b) (hE : AllF ((d, .bool b) :: E') E) : X C (JQ C Q d φ E' H) .normal E H := fun _ _ hf hi => ⟨b, h, hf.weak hE.sub, hi⟩
end
end Go.Acq
namespace Go.Acq
open Go Go.RowKit
def Zcj (P : Program) (K : World → Prop) (w : World) (v : Value) : Result Next → Prop
  | .ok (.value u) w' => w' = w ∧ u = v
  | .ok (.enter f args) w' => w' = w ∧ Calls P f args w (fun e w'' => e = .returned v ∧ K w'')
  | _ => False
def wpQ (P : Program) (ops : Array Oper) (K : World → Prop) (Qn : Act → Prop) : List Nat → Act → Prop
  | [], a => Qn a
  | i :: rest, a => match ops[i]? with
    | none => wpQ P ops K Qn rest a
    | some o => (∀ c, o.op ≠ .defer c) ∧ (∀ cs b, o.op ≠ .select cs b) ∧
        if Region.wanted o (yielded ops a.tmps) = true then ∃ v, (∀ w, K w → Zcj P K w v ((execOp a.eval o).run P w)) ∧ wpQ P ops K Qn rest (a.put o.dst v)
        else wpQ P ops K Qn rest (a.put o.dst undef)
def TQ (C : Cx) (ops : Array Oper) (Qn : Act → Prop) (l : List Nat) (E : Env) (H : Heap) : Prop := ∀ a, Fits C.n C.D E a → wpQ C.P ops (fun w => Inv C.w0 C.M w H) Qn l a
def seqB (ops : Array Oper) (m : Nat) : Bool := (List.range m).all fun i => match ops[i]? with
  | none => false
  | some o => (match o.dst with | some d => (List.range m).all fun j => Nat.beq j i || !(Z3e ops j == some d) | none => false) &&
      (o.looksAt ops).all fun t => (List.range m).all fun j => !(Z3e ops j == some t) || (Nat.blt j i && Zbf ops ops.size i j)
section
variable {C : Cx} {ops : Array Oper} {Q : Exit → Act → World → Prop} {E : Env} {H : Heap}
def Zej (ops : Array Oper) (vs : Nat → Value) (a : Act) : Nat → Act
  | 0 => a
  | i + 1 => (Zej ops vs a i).put (Z3e ops i) (vs i)
structure DoneQ (ops : Array Oper) (m : Nat) (vs : Nat → Value) (a0 : Act) (done : Nat → Bool) (a : Act) : Prop where
  size : a.tmps.size = a0.tmps.size
  defers : a.defers = a0.defers
  has : ∀ j d, j < m → done j = true → Z3e ops j = some d → d < a0.tmps.size → a.tmps[d]? = some (vs j)
  old : ∀ t, (∀ j, j < m → done j = true → Z3e ops j ≠ some t) → a.tmps[t]? = a0.tmps[t]?
theorem DoneQ.put {m : Nat} {vs : Nat → Value} {a0 a : Act} {done : Nat → Bool} {i d : Nat} (h : DoneQ ops m vs a0 done a) (hi : i < m) (hd : Z3e ops i = some d) (hu : ∀ j, j < m → j ≠ i → Z3e ops j ≠ some d) :
    DoneQ ops m vs a0 (fun q => if q = i then true else done q) (a.put (some d) (vs i)) := by
  refine ⟨by simpa [Act.put] using h.size, h.defers, fun j e hj hdj hs hlt => ?_, fun t ht => ?_⟩
  · simp only [Act.put, Array.getElem?_setIfInBounds]
    by_cases c : j = i
    · subst c
      rw [hd] at hs; injection hs with hs; subst hs
      rw [if_pos rfl, if_pos (by rw [h.size]; exact hlt)]
    · have hne : d ≠ e := by rintro rfl; exact hu j hj c hs
      rw [if_neg hne]
      exact h.has j e hj (by simpa [c] using hdj) hs hlt
  · simp only [Act.put, Array.getElem?_setIfInBounds]
    have hne : d ≠ t := by rintro rfl; exact ht i hi (by simp) hd
    rw [if_neg hne]
    exact h.old t fun j hj hdj => ht j hj (by by_cases c : j = i <;> simp [c, hdj])
theorem eval_tmp {a a' : Act} {t : Nat} (h : a.tmps[t]? = a'.tmps[t]?) : a.eval (.tmp t) = a'.eval (.tmp t) := by
 simp [Act.eval, Array.getD_eq_getD_getElem?, h]
theorem seq_step {m : Nat} {vs : Nat → Value} {a0 a a' : Act} {done done' : Nat → Bool} {o : Oper} (h : DoneQ ops m vs a0 done a) (h' : DoneQ ops m vs a0 done' a')
    (hl : ∀ t, t ∈ o.looksAt ops → ∀ j, j < m → Z3e ops j = some t → done j = true ∧ done' j = true) :
    (∀ x, x ∈ o.op.operands → a.eval x = a'.eval x) ∧ Region.wanted o (yielded ops a.tmps) = Region.wanted o (yielded ops a'.tmps) := by
  have key : ∀ t : Nat, t ∈ o.looksAt ops → a.tmps[t]? = a'.tmps[t]? := by
    intro t ht
    by_cases c : ∃ j, j < m ∧ Z3e ops j = some t
    · obtain ⟨j, hj, hs⟩ := c
      obtain ⟨d1, d2⟩ := hl t ht j hj hs
      by_cases hlt : t < a0.tmps.size
      · rw [h.has j t hj d1 hs hlt, h'.has j t hj d2 hs hlt]
      · rw [Array.getElem?_eq_none (by rw [h.size]; omega), Array.getElem?_eq_none (by rw [h'.size]; omega)]
    · have hn : ∀ j, j < m → Z3e ops j ≠ some t := fun j hj hs => c ⟨j, hj, hs⟩
      rw [h.old t fun j hj _ => hn j hj, h'.old t fun j hj _ => hn j hj]
  refine ⟨fun x hx => ?_, ?_⟩
  · cases x with
    | tmp t => exact eval_tmp (key t (List.mem_append_left _ (List.mem_filterMap.2 ⟨.tmp t, by simpa using hx, rfl⟩)))
    | const v => rfl
    | global g => rfl
    | func f => rfl
  · unfold Region.wanted
    cases hg : o.guard with
    | none => rfl
    | some gw =>
      obtain ⟨g, want⟩ := gw
      have : yielded ops a.tmps g = yielded ops a'.tmps g := by
        unfold yielded
        cases ht : (ops[g]?).bind (·.dst) with
        | none => rfl
        | some t =>
          have := key t (List.mem_append_right _ (by rw [hg]; simp [ht]))
          simp only [Option.bind_some, this]
      simp only [this]
theorem Zm8 {K : World → Prop} {Qn : Act → Prop} {vs0 : Nat → Value} {a0 : Act} : ∀ (k i : Nat), (∀ j, j < i + k → ∃ o, ops[j]? = some o) → wpQ C.P ops K Qn (List.range' i k) (Zej ops vs0 a0 i) →
    ∃ vs : Nat → Value, (∀ j, j < i → vs j = vs0 j) ∧ (∀ j o, i ≤ j → j < i + k → ops[j]? = some o → (∀ c, o.op ≠ .defer c) ∧ (∀ cs b, o.op ≠ .select cs b) ∧
      ((Region.wanted o (yielded ops (Zej ops vs a0 j).tmps) = true ∧ ∀ w, K w → Zcj C.P K w (vs j) ((execOp (Zej ops vs a0 j).eval o).run C.P w)) ∨ (Region.wanted o (yielded ops (Zej ops vs a0 j).tmps) = false ∧ vs j = undef))) ∧ Qn (Zej ops vs a0 (i + k))
  | 0, i, _, h => ⟨vs0, fun _ _ => rfl, fun j o h1 h2 => by omega, h⟩
  | k + 1, i, hops, h => by
    obtain ⟨o, ho⟩ := hops i (by omega)
    rw [List.range'_succ] at h
    simp only [wpQ, ho] at h
    obtain ⟨hd, hs, h⟩ := h
    have hslot : Z3e ops i = o.dst := by simp [Z3e, ho]
    obtain ⟨v, hv, hrest⟩ : ∃ v, ((Region.wanted o (yielded ops (Zej ops vs0 a0 i).tmps) = true ∧ ∀ w, K w → Zcj C.P K w v ((execOp (Zej ops vs0 a0 i).eval o).run C.P w)) ∨ (Region.wanted o (yielded ops (Zej ops vs0 a0 i).tmps) = false ∧ v = undef)) ∧
        wpQ C.P ops K Qn (List.range' (i + 1) k) ((Zej ops vs0 a0 i).put o.dst v) := by
      by_cases hw : Region.wanted o (yielded ops (Zej ops vs0 a0 i).tmps) = true
      · rw [if_pos hw] at h
        obtain ⟨v, h1, h2⟩ := h
        exact ⟨v, .inl ⟨hw, h1⟩, h2⟩
      · rw [if_neg hw] at h
        exact ⟨undef, .inr ⟨by simpa using hw, rfl⟩, h⟩
    have hcongr : ∀ (vs' : Nat → Value), (∀ j, j < i → vs' j = vs0 j) → ∀ j, j ≤ i → Zej ops vs' a0 j = Zej ops vs0 a0 j := by
      intro vs' hvs j
      induction j with
      | zero => intro _; rfl
      | succ j ih => intro hj; simp only [Zej]; rw [ih (by omega), hvs j (by omega)]
    let vs1 : Nat → Value := fun j => if j = i then v else vs0 j
    have e1 : Zej ops vs1 a0 (i + 1) = (Zej ops vs0 a0 i).put o.dst v := by
      simp only [Zej]
      rw [hcongr vs1 (fun j hj => by simp only [vs1]; rw [if_neg (by omega)]) i (Nat.le_refl _), hslot]
      simp only [vs1, if_true]
    rw [← e1] at hrest
    obtain ⟨vs, g1, g2, g3⟩ := Zm8 k (i + 1) (fun j hj => hops j (by omega)) hrest
    have gi : vs i = v := by rw [g1 i (by omega)]; simp only [vs1, if_true]
    have gl : ∀ j, j < i → vs j = vs0 j := fun j hj => by rw [g1 j (by omega)]; simp only [vs1]; rw [if_neg (by omega)]
    refine ⟨vs, gl, fun j o' h1 h2 ho' => ?_, by rw [show i + (k + 1) = i + 1 + k by omega]; exact g3⟩
    by_cases c : j = i
    · subst c
      rw [ho] at ho'; injection ho' with ho'; subst ho'
      rw [hcongr vs gl j (Nat.le_refl _), gi]
      exact ⟨hd, hs, hv⟩
    · exact g2 j o' (by omega) (by omega) ho'
theorem Zeg {m : Nat} {vs : Nat → Value} {a0 : Act} (hu : ∀ i, i < m → ∃ d, Z3e ops i = some d ∧ ∀ j, j < m → j ≠ i → Z3e ops j ≠ some d) : ∀ i, i ≤ m → DoneQ ops m vs a0 (fun q => decide (q < i)) (Zej ops vs a0 i)
 | 0, _ => ⟨rfl, rfl, fun j d _ h => by simp at h, fun t _ => rfl⟩
 | i + 1, hi => by
  obtain ⟨d, hd, hud⟩ := hu i (by omega)
  have := (Zeg (vs := vs) (a0 := a0) hu i (by omega)).put (by omega) hd hud
  simp only [Zej]
  rw [hd]
  have e : (fun q : Nat => decide (q < i + 1)) = fun q => if q = i then true else decide (q < i) := by
   funext q
   by_cases c : q = i
   · simp [c]
   ·
    have : (q < i + 1) ↔ q < i := by omega
    simp [c, this]
  rw [e]; exact this
theorem Z96 {id : Nat} (m : Nat) (ll : List Nat) (hll : List.range m = ll) (hm : C.P.follows .mixedOrders = true) (hb : Zjh ops = true) (ht : Zmg ops m = true) (hms : Nat.ble m ops.size = true) (hs : seqB ops m = true)
    (k : TQ C ops (fun a => ∀ w, Inv C.w0 C.M w H → wpOpsIn (FW C.ρ) 0 C.P ops Q (List.range' m (ops.size - m)) a w) ll E H) : T C (.region id ops true) Q E H := by
  subst hll
  intro a0 w hf hi
  have hms' := Nat.le_of_ble_eq_true hms
  have hseq : ∀ i, i < m → ∃ o d, ops[i]? = some o ∧ Z3e ops i = some d ∧ (∀ j, j < m → j ≠ i → Z3e ops j ≠ some d) ∧ ∀ t, t ∈ o.looksAt ops → ∀ j, j < m → Z3e ops j = some t → j < i ∧ Zbf ops ops.size i j = true := by
    intro i him
    have h1 := List.all_eq_true.1 hs i (List.mem_range.2 him)
    have ho : ops[i]? = some ops[i] := Array.getElem?_eq_getElem (by omega)
    rw [ho] at h1
    simp only [Bool.and_eq_true] at h1
    cases hd : (ops[i]).dst with
    | none => rw [hd] at h1; simp at h1
    | some d =>
      rw [hd] at h1
      refine ⟨ops[i], d, ho, by simp [Z3e, ho, hd], fun j hj hji he => ?_, fun t htl j hj hsj => ?_⟩
      · have h2 := List.all_eq_true.1 h1.1 j (List.mem_range.2 hj)
        simp only [Bool.or_eq_true] at h2
        rcases h2 with h2 | h2
        · exact hji (Nat.eq_of_beq_eq_true h2)
        · rw [he] at h2; simp at h2
      · have h2 := List.all_eq_true.1 (List.all_eq_true.1 h1.2 t htl) j (List.mem_range.2 hj)
        rw [hsj] at h2
        simpa using h2
  have hu : ∀ i, i < m → ∃ d, Z3e ops i = some d ∧ ∀ j, j < m → j ≠ i → Z3e ops j ≠ some d := fun i h => by
    obtain ⟨_, d, _, h1, h2, _⟩ := hseq i h; exact ⟨d, h1, h2⟩
  have hk := k a0 hf
  rw [List.range_eq_range'] at hk
  obtain ⟨vs, -, hstep, hend⟩ := Zm8 (C := C) (vs0 := fun _ => undef) (a0 := a0) m 0 (fun j hj => by obtain ⟨o, _, ho, _⟩ := hseq j (by omega); exact ⟨o, ho⟩) hk
  rw [Nat.zero_add] at hend
  refine Zai (m := m) (Jp := fun done a w => DoneQ ops m vs a0 done a ∧ Inv C.w0 C.M w H) hm hb ht hms' ?_ ?_ ⟨⟨rfl, rfl, fun j d _ h => by simp at h, fun t _ => rfl⟩, hi.ofHeap rfl rfl rfl rfl⟩
  · rintro done i o a w1 him ho hdi hcl hafter _ ⟨hD, hinv⟩
    obtain ⟨o', d, ho', hsl, hud, hlook⟩ := hseq i him
    rw [ho] at ho'; injection ho' with ho'; subst ho'
    have hdst : o.dst = some d := by simpa [Z3e, ho] using hsl
    have hdone : ∀ j, Zbf ops ops.size i j = true → done j = true := fun j hj => Z6u hcl _ i j hj (fun o' ho' => by rw [ho] at ho'; injection ho' with ho'; subst ho'; exact hafter)
    obtain ⟨hev, hwt⟩ := seq_step hD (Zeg hu i (by omega)) (o := o) (fun t htl j hj hsj => by
      obtain ⟨h1, h2⟩ := hlook t htl j hj hsj
      exact ⟨hdone j h2, by simpa using h1⟩)
    obtain ⟨hnd, hns, hval⟩ := hstep i o (by omega) (by omega) ho
    have hex := execOp_congr o hns hev
    have hput := hD.put him hsl hud
    unfold wpOpIn
    rw [ho]
    simp only
    rcases hval with ⟨hw, hq⟩ | ⟨hw, hq⟩
    · rw [hwt, hw]
      simp only [if_true]
      refine ⟨fun _ _ => trivial, ?_⟩
      rw [Oper.semAt_eq _ _ _ hnd, hex]
      have hq := hq w1 hinv
      generalize (execOp (Zej ops vs a0 i).eval o).run C.P w1 = r at hq
      cases r with
      | ok x w' =>
        cases x <;> simp only [Zcj] at hq
        case value u =>
          obtain ⟨rfl, rfl⟩ := hq
          show _ ∧ _
          rw [hdst]
          exact ⟨hput, hinv⟩
        case enter f args =>
          obtain ⟨rfl, hc⟩ := hq
          refine ⟨by simp [FW], callsIn_FW.2 (Calls.mono hc ?_)⟩
          rintro e w'' ⟨rfl, hK⟩
          show _ ∧ _
          rw [hdst]
          exact ⟨hput, hK⟩
      | halt x w' => simp only [Zcj] at hq
    · rw [hwt, hw]
      simp only [Bool.false_eq_true, if_false]
      refine ⟨fun _ _ => trivial, ?_⟩
      rw [hdst, ← hq]
      exact ⟨hput, hinv⟩
  · rintro done a w1 hall ⟨hD, hinv⟩
    have hA := Zeg (vs := vs) (a0 := a0) hu m (Nat.le_refl _)
    have ea : a = Zej ops vs a0 m := by
      have e1 : a.tmps = (Zej ops vs a0 m).tmps := by
        apply Array.ext_getElem?
        intro t
        by_cases c : ∃ j, j < m ∧ Z3e ops j = some t
        · obtain ⟨j, hj, hsj⟩ := c
          by_cases hlt : t < a0.tmps.size
          · rw [hD.has j t hj (hall j hj) hsj hlt, hA.has j t hj (by simpa using hj) hsj hlt]
          · rw [Array.getElem?_eq_none (by rw [hD.size]; omega), Array.getElem?_eq_none (by rw [hA.size]; omega)]
        · have hn : ∀ j, j < m → Z3e ops j ≠ some t := fun j hj hsj => c ⟨j, hj, hsj⟩
          rw [hD.old t fun j hj _ => hn j hj, hA.old t fun j hj _ => hn j hj]
      have e2 : a.defers = (Zej ops vs a0 m).defers := by rw [hD.defers, hA.defers]
      cases a; simp_all
    rw [ea]
    exact hend w1 hinv
theorem TQ.tail {m k : Nat} (l : List Nat) (hl : List.range' m k = l) {H0 : Heap} (hH : H0 = H) (h : TO C ops Q l E H) : TQ C ops (fun a => ∀ w, Inv C.w0 C.M w H → wpOpsIn (FW C.ρ) 0 C.P ops Q (List.range' m k) a w) [] E H0 := fun a hf w hi => by rw [hl]; exact h a w hf hi
end
end Go.Acq
namespace Go.Acq
open Go Go.RowKit
section rules
variable {C : Cx} {ops : Array Oper} {Q : Act → Prop} {l : List Nat} {E : Env} {H R : Heap} {i d : Nat} {ty : TypeId} {pos : String} {af : Array Edge} {g : Option (Nat × Bool)}
theorem TQ.val {op : Op} {v : Value} (ho : ops[i]? = some ⟨some d, op, ty, pos, af, g⟩) (hg : gdB ops E g = true) (hd : Nat.ble (d + 1) C.n = true) (hnd : ∀ c, op ≠ .defer c)
    (hr : ∀ a w, Fits C.n C.D E a → Inv C.w0 C.M w H → (execOp a.eval ⟨some d, op, ty, pos, af, g⟩).run C.P w = .ok (.value v) w)
    (k : TQ C ops Q l ((d, v) :: E) H) (hns : ∀ cs b, op ≠ .select cs b := by simp) : TQ C ops Q (i :: l) E H := by
  intro a hf
  simp only [wpQ, ho]
  refine ⟨hnd, hns, ?_⟩
  rw [if_pos (Zcn hf hg)]
  exact ⟨v, fun w hi => by rw [hr a w hf hi]; exact ⟨rfl, rfl⟩, k _ (hf.put hd v)⟩
theorem TQ.move {x : Operand} {v : Value} (ho : ops[i]? = some ⟨some d, .move x, ty, pos, af, g⟩) (hg : gdB ops E g = true) (hd : Nat.ble (d + 1) C.n = true) (hx : ev E x = some v)
    (k : TQ C ops Q l ((d, v) :: E) H) : TQ C ops Q (i :: l) E H :=
  TQ.val ho hg hd (by simp) (fun a w hf _ => by simp [execOp, hf.ev hx]) k
theorem TQ.assign {x : Operand} {v : Value} (ho : ops[i]? = some ⟨some d, .assign x, ty, pos, af, g⟩) (hg : gdB ops E g = true) (hd : Nat.ble (d + 1) C.n = true) (hx : ev E x = some v)
    (k : TQ C ops Q l ((d, v) :: E) H) : TQ C ops Q (i :: l) E H :=
  TQ.val ho hg hd (by simp) (fun a w hf _ => by simp [execOp, hf.ev hx]) k
theorem TQ.bin {op : BinOp} {t t2 : TypeId} {x y : Operand} {k : IntKind} {p q : Int} {v : Value}
    (ho : ops[i]? = some ⟨some d, .binOp op t x y t2, ty, pos, af, g⟩) (hg : gdB ops E g = true) (hd : Nat.ble (d + 1) C.n = true) (hx : ev E x = some (.int k p)) (hy : ev E y = some (.int k q))
    (hv : binV op k p q = some v) (kk : TQ C ops Q l ((d, v) :: E) H) : TQ C ops Q (i :: l) E H :=
  TQ.val ho hg hd (by simp) (fun a w hf _ => by simp [execOp, hf.ev hx, hf.ev hy, eqGuard_at_int, Zjz hv]) kk
theorem TQ.add {t t2 : TypeId} {x y : Operand} {p q : Int}
    (ho : ops[i]? = some ⟨some d, .binOp .add t x y t2, ty, pos, af, g⟩) (hg : gdB ops E g = true) (hd : Nat.ble (d + 1) C.n = true) (hx : ev E x = some (.int .i64 p)) (hy : ev E y = some (.int .i64 q))
    (h1 : -9223372036854775808 ≤ p + q) (h2 : p + q ≤ 9223372036854775807) (kk : TQ C ops Q l ((d, .int .i64 (p + q)) :: E) H) : TQ C ops Q (i :: l) E H :=
  TQ.bin ho hg hd hx hy (by simp only [binV]; rw [Z8b h1 h2]) kk
theorem TQ.fieldAddr {s : TypeId} {x : Operand} {f o b p : Nat} (ho : ops[i]? = some ⟨some d, .fieldAddr s x f, ty, pos, af, g⟩) (hg : gdB ops E g = true) (hd : Nat.ble (d + 1) C.n = true)
    (hx : ev E x = some (.pointer (some ⟨b, p, none⟩))) (hT : Z17 C.P s f = some o) (kk : TQ C ops Q l ((d, .pointer (some ⟨b, p + o, none⟩)) :: E) H) : TQ C ops Q (i :: l) E H :=
  TQ.val ho hg hd (by simp) (fun a w hf _ => by simp [execOp, hf.ev hx, Ze3 hT]) kk
theorem Z1b {s : TypeId} {x : Operand} {f o b : Nat} (ho : ops[i]? = some ⟨some d, .fieldAddr s x f, ty, pos, af, g⟩) (hg : gdB ops E g = true) (hd : Nat.ble (d + 1) C.n = true)
    (hx : ev E x = some (.pointer (some ⟨b, 0, none⟩))) (hT : Z17 C.P s f = some o) (kk : TQ C ops Q l ((d, .pointer (some ⟨b, o, none⟩)) :: E) H) : TQ C ops Q (i :: l) E H :=
  TQ.fieldAddr ho hg hd hx hT (by rw [Nat.zero_add]; exact kk)
theorem TQ.load {t : TypeId} {x : Operand} {ad : Addr} {v : Value} (ho : ops[i]? = some ⟨some d, .load t x, ty, pos, af, g⟩) (hg : gdB ops E g = true) (hd : Nat.ble (d + 1) C.n = true)
    (hx : ev E x = some (.pointer (some ad))) (hT : Z2k C.P t = true) (hc : ∀ w, Inv C.w0 C.M w H → w.cell? ad = some v)
    (kk : TQ C ops Q l ((d, v) :: E) H) : TQ C ops Q (i :: l) E H :=
  TQ.val ho hg hd (by simp) (fun a w hf hi => by simp [execOp, hf.ev hx, Instr.loadAt, Instr.sureAddr, Za9 hT (hc w hi)]) kk
theorem Z3i {t T' : TypeId} {x : Operand} {b o : Nat} {cs : Array Value} {fr : Nat × Nat} {v : Value} (ho : ops[i]? = some ⟨some d, .load t x, ty, pos, af, g⟩) (hg : gdB ops E g = true) (hd : Nat.ble (d + 1) C.n = true)
    (hx : ev E x = some (.pointer (some ⟨b, o, none⟩))) (hT : Z2k C.P t = true) (hm : (some b, Obj.cells cs T' fr) ∈ H) (hv : cs[o]? = some v)
    (kk : TQ C ops Q l ((d, v) :: E) H) : TQ C ops Q (i :: l) E H :=
  TQ.load ho hg hd hx hT (fun w hi => by rw [hi.cell_own hm]; exact hv) kk
theorem TQ.loadS {t : TypeId} {x : Operand} {ad : Addr} {k : Nat} {cs : List Value} (ho : ops[i]? = some ⟨some d, .load t x, ty, pos, af, g⟩) (hg : gdB ops E g = true) (hd : Nat.ble (d + 1) C.n = true)
    (hx : ev E x = some (.pointer (some ad))) (hT : Zaa C.P t k = true) (hk : cs.length = k) (hc : ∀ w, Inv C.w0 C.M w H → ∀ j v, cs[j]? = some v → w.cell? (ad.add j) = some v)
    (kk : TQ C ops Q l ((d, .agg cs.toArray) :: E) H) : TQ C ops Q (i :: l) E H :=
  TQ.val ho hg hd (by simp) (fun a w hf hi => by simp [execOp, hf.ev hx, Instr.loadAt, Instr.sureAddr, Z8e hT hk (hc w hi)]) kk
theorem TQ.ldI {t T' : TypeId} {x : Operand} {b o : Nat} {k : IntKind} {xs : List Int} {j : List Value} {fr : Nat × Nat} (ho : ops[i]? = some ⟨some d, .load t x, ty, pos, af, g⟩) (hg : gdB ops E g = true) (hd : Nat.ble (d + 1) C.n = true)
    (hx : ev E x = some (.pointer (some ⟨b, o, none⟩))) (hT : Z2k C.P t = true) (hm : (some b, Obj.cells (arr (intC k) xs j).toArray T' fr) ∈ H) (hv : o < xs.length)
    (kk : TQ C ops Q l ((d, .int k (xs.getD o 0)) :: E) H) : TQ C ops Q (i :: l) E H :=
  Z3i ho hg hd hx hT hm (by
    have := Zed (f := intC k) (s := 1) (fun _ => rfl) 0 xs j o 0 hv (by omega)
    simpa using this) kk
theorem Zit {t e : TypeId} {x y : Operand} {base : Option Addr} {n c s : Nat} {k : IntKind} {p : Int} (ho : ops[i]? = some ⟨some d, .indexAddr t x y, ty, pos, af, g⟩) (hg : gdB ops E g = true) (hd : Nat.ble (d + 1) C.n = true)
    (hx : ev E x = some (.slice base n c)) (hy : ev E y = some (.int k p)) (ht : Z1q C.P t = some e) (hs : Z1g C.P e = some s) (hb : base = none → n = 0) (h0 : 0 ≤ p) (h1 : p < n)
    (kk : TQ C ops Q l ((d, .pointer (some (ea base (p.toNat * s)))) :: E) H) : TQ C ops Q (i :: l) E H :=
  TQ.val ho hg hd (by simp) (fun a w hf hi => by
    cases base with
    | none => exact absurd h1 (by simp [hb rfl]; omega)
    | some b =>
      have hu := Z6c ht
      simp [execOp, hf.ev hx, hf.ev hy, Instr.indexAt, asIntOf, run_underlying hu, h0, h1, Z8d hs, ea]) kk
theorem TQ.index {t e : TypeId} {x y : Operand} {b o n c s : Nat} {k : IntKind} {p : Int} (ho : ops[i]? = some ⟨some d, .indexAddr t x y, ty, pos, af, g⟩) (hg : gdB ops E g = true) (hd : Nat.ble (d + 1) C.n = true)
    (hx : ev E x = some (.slice (some ⟨b, o, none⟩) n c)) (hy : ev E y = some (.int k p)) (ht : Z1q C.P t = some e) (hs : Z1g C.P e = some s) (h0 : 0 ≤ p) (h1 : p < n)
    (kk : TQ C ops Q l ((d, .pointer (some ⟨b, o + p.toNat * s, none⟩)) :: E) H) : TQ C ops Q (i :: l) E H :=
  Zit ho hg hd hx hy ht hs (by simp) h0 h1 (by simpa [ea, Addr.add_mid] using kk)
theorem Zof {t e : TypeId} {x y : Operand} {b n c s : Nat} {k : IntKind} {p : Int} (ho : ops[i]? = some ⟨some d, .indexAddr t x y, ty, pos, af, g⟩) (hg : gdB ops E g = true) (hd : Nat.ble (d + 1) C.n = true)
    (hx : ev E x = some (.slice (some ⟨b, 0, none⟩) n c)) (hy : ev E y = some (.int k p)) (ht : Z1q C.P t = some e) (hs : Z1g C.P e = some s) (h0 : 0 ≤ p) (h1 : p < n)
    (kk : TQ C ops Q l ((d, .pointer (some ⟨b, p.toNat * s, none⟩)) :: E) H) : TQ C ops Q (i :: l) E H :=
  TQ.index ho hg hd hx hy ht hs h0 h1 (by rw [Nat.zero_add]; exact kk)
theorem Zdh {α : Type} {f : α → List Value} {M : List Nat} {w : World} {xs : List α} {t e : TypeId} {x y : Operand} {base : Option Addr} {n c s : Nat} {k : IntKind} {p : Int} (hr : RS w M f s base n c xs) (hp : inb p xs.length)
    (ho : ops[i]? = some ⟨some d, .indexAddr t x y, ty, pos, af, g⟩) (hg : gdB ops E g = true) (hd : Nat.ble (d + 1) C.n = true)
    (hx : ev E x = some (.slice base n c)) (hy : ev E y = some (.int k p)) (ht : Z1q C.P t = some e) (hs : Z1g C.P e = some s)
    (kk : TQ C ops Q l ((d, .pointer (some (ea base (p.toNat * s)))) :: E) H) : TQ C ops Q (i :: l) E H :=
  Zit ho hg hd hx hy ht hs hr.ro.nil hp.1 (by have := hp.2; rw [hr.len] at this; exact this) kk
theorem TQ.ix0 {α : Type} {xs : List α} {t e : TypeId} {x y : Operand} {b n c s : Nat} {k : IntKind} {p : Int} (hn : xs.length = n) (hp : inb p xs.length)
    (ho : ops[i]? = some ⟨some d, .indexAddr t x y, ty, pos, af, g⟩) (hg : gdB ops E g = true) (hd : Nat.ble (d + 1) C.n = true)
    (hx : ev E x = some (.slice (some ⟨b, 0, none⟩) n c)) (hy : ev E y = some (.int k p)) (ht : Z1q C.P t = some e) (hs : Z1g C.P e = some s)
    (kk : TQ C ops Q l ((d, .pointer (some ⟨b, p.toNat * s, none⟩)) :: E) H) : TQ C ops Q (i :: l) E H :=
  Zof ho hg hd hx hy ht hs hp.1 (by have := hp.2; rw [hn] at this; exact this) kk
theorem Zaw {t : TypeId} {x : Operand} {base : Option Addr} {n c : Nat} {k : IntKind} {p : Int} {xs : List Int} (hr : RS C.w0 C.M (intC k) 1 base n c xs) (hp : inb p xs.length) (ho : ops[i]? = some ⟨some d, .load t x, ty, pos, af, g⟩) (hg : gdB ops E g = true) (hd : Nat.ble (d + 1) C.n = true)
    (hx : ev E x = some (.pointer (some (ea base (p.toNat * 1))))) (hT : Z2k C.P t = true)
    (kk : TQ C ops Q l ((d, .int k (xs.getD p.toNat 0)) :: E) H) : TQ C ops Q (i :: l) E H :=
  TQ.load ho hg hd hx hT (fun w hi => by
    have := (hr.ro.monoM hr.far hi).at 0 (o := p.toNat) (c := 0) (Zan hp) (by omega)
    simpa using this) kk
theorem TQ.ldIO {t T' : TypeId} {x : Operand} {b : Nat} {k : IntKind} {p : Int} {xs : List Int} {j : List Value} {fr : Nat × Nat} (hp : inb p xs.length) (ho : ops[i]? = some ⟨some d, .load t x, ty, pos, af, g⟩) (hg : gdB ops E g = true) (hd : Nat.ble (d + 1) C.n = true)
    (hx : ev E x = some (.pointer (some ⟨b, p.toNat, none⟩))) (hT : Z2k C.P t = true) (hm : (some b, Obj.cells (arr (intC k) xs j).toArray T' fr) ∈ H)
    (kk : TQ C ops Q l ((d, .int k (xs.getD p.toNat 0)) :: E) H) : TQ C ops Q (i :: l) E H := TQ.ldI ho hg hd hx hT hm (Zan hp) kk
theorem TQ.addG {t t2 : TypeId} {x y : Operand} {p q : Int} (h : i64ok (p + q)) (ho : ops[i]? = some ⟨some d, .binOp .add t x y t2, ty, pos, af, g⟩) (hg : gdB ops E g = true) (hd : Nat.ble (d + 1) C.n = true) (hx : ev E x = some (.int .i64 p)) (hy : ev E y = some (.int .i64 q))
    (kk : TQ C ops Q l ((d, .int .i64 (p + q)) :: E) H) : TQ C ops Q (i :: l) E H := TQ.add ho hg hd hx hy h.1 h.2 kk
theorem Zoe {t : TypeId} {x : Operand} {b o : Nat} {cs : List Value} {v : Value} (hc : HB C.w0 C.M b cs) (hv : cs[o]? = some v) (ho : ops[i]? = some ⟨some d, .load t x, ty, pos, af, g⟩) (hg : gdB ops E g = true) (hd : Nat.ble (d + 1) C.n = true)
    (hx : ev E x = some (.pointer (some ⟨b, o, none⟩))) (hT : Z2k C.P t = true)
    (kk : TQ C ops Q l ((d, v) :: E) H) : TQ C ops Q (i :: l) E H := TQ.load ho hg hd hx hT (fun w hi => hi.cell_old (hc.has o v hv) hc.far) kk
theorem TQ.ldHBA {t : TypeId} {x : Operand} {b k : Nat} {cs : List Value} (hc : HB C.w0 C.M b cs) (hk : cs.length = k) (ho : ops[i]? = some ⟨some d, .load t x, ty, pos, af, g⟩) (hg : gdB ops E g = true) (hd : Nat.ble (d + 1) C.n = true)
    (hx : ev E x = some (.pointer (some ⟨b, 0, none⟩))) (hT : Zaa C.P t k = true)
    (kk : TQ C ops Q l ((d, .agg cs.toArray) :: E) H) : TQ C ops Q (i :: l) E H :=
  TQ.loadS ho hg hd hx hT hk (fun w hi j v hv => by rw [Addr.add_mid, Nat.zero_add]; exact hi.cell_old (hc.has j v hv) hc.far) kk
theorem Zfh {α : Type} {xs : List α} {t e : TypeId} {x y : Operand} {ob : Option Nat} {n c s : Nat} {k : IntKind} {p : Int} (hz : ob = none → c = 0) (hc : n ≤ c) (hn : xs.length = n) (hp : inb p xs.length)
    (ho : ops[i]? = some ⟨some d, .indexAddr t x y, ty, pos, af, g⟩) (hg : gdB ops E g = true) (hd : Nat.ble (d + 1) C.n = true)
    (hx : ev E x = some (.slice (sb ob) n c)) (hy : ev E y = some (.int k p)) (ht : Z1q C.P t = some e) (hs : Z1g C.P e = some s)
    (kk : TQ C ops Q l ((d, .pointer (some (ea (sb ob) (p.toNat * s)))) :: E) H) : TQ C ops Q (i :: l) E H := by
  obtain ⟨b, rfl⟩ := Z8p hz hc hn hp
  exact TQ.ix0 hn hp ho hg hd hx hy ht hs (by rw [← Zap]; exact kk)
theorem Zbs {t T' : TypeId} {x : Operand} {ob : Option Nat} {n c : Nat} {k : IntKind} {p : Int} {xs : List Int} {j : List Value} {fr : Nat × Nat} (hz : ob = none → c = 0) (hc : n ≤ c) (hn : xs.length = n) (hp : inb p xs.length) (ho : ops[i]? = some ⟨some d, .load t x, ty, pos, af, g⟩) (hg : gdB ops E g = true) (hd : Nat.ble (d + 1) C.n = true)
    (hx : ev E x = some (.pointer (some (ea (sb ob) (p.toNat * 1))))) (hT : Z2k C.P t = true) (hm : (ob, Obj.cells (arr (intC k) xs j).toArray T' fr) ∈ H)
    (kk : TQ C ops Q l ((d, .int k (xs.getD p.toNat 0)) :: E) H) : TQ C ops Q (i :: l) E H := by
  obtain ⟨b, rfl⟩ := Z8p hz hc hn hp
  exact TQ.ldIO hp ho hg hd (by rw [← Zap, ← Nat.mul_one p.toNat]; exact hx) hT hm kk
end rules
end Go.Acq
namespace Go.Acq
open Go Go.RowKit
section rules
variable {C : Cx} {ops : Array Oper} {Q : Exit → Act → World → Prop} {l : List Nat} {E : Env} {H R : Heap} {i d : Nat} {ty : TypeId} {pos : String} {af : Array Edge} {g : Option (Nat × Bool)}
end rules
end Go.Acq
namespace Go.Acq
open Go Go.RowKit
section
variable {C : Cx} {Q : Exit → Act → World → Prop} {E : Env} {H : Heap} {c x y : Code}
end
end Go.Acq
namespace Go.Acq
open Go
end Go.Acq
namespace Go.Acq
open Go Go.RowKit
theorem mm0 {α : Type} {x : α} {l : List α} : x ∈ x :: l := .head _
theorem mm1 {α : Type} {a0 x : α} {l : List α} : x ∈ a0 :: x :: l := .tail _ mm0
theorem mm2 {α : Type} {a0 a1 x : α} {l : List α} : x ∈ a0 :: a1 :: x :: l := .tail _ mm1
theorem mm3 {α : Type} {a0 a1 a2 x : α} {l : List α} : x ∈ a0 :: a1 :: a2 :: x :: l := .tail _ mm2
theorem mm4 {α : Type} {a0 a1 a2 a3 x : α} {l : List α} : x ∈ a0 :: a1 :: a2 :: a3 :: x :: l := .tail _ mm3
theorem mm5 {α : Type} {a0 a1 a2 a3 a4 x : α} {l : List α} : x ∈ a0 :: a1 :: a2 :: a3 :: a4 :: x :: l := .tail _ mm4
theorem mm6 {α : Type} {a0 a1 a2 a3 a4 a5 x : α} {l : List α} : x ∈ a0 :: a1 :: a2 :: a3 :: a4 :: a5 :: x :: l := .tail _ mm5
theorem mm7 {α : Type} {a0 a1 a2 a3 a4 a5 a6 x : α} {l : List α} : x ∈ a0 :: a1 :: a2 :: a3 :: a4 :: a5 :: a6 :: x :: l := .tail _ mm6
theorem mm8 {α : Type} {a0 a1 a2 a3 a4 a5 a6 a7 x : α} {l : List α} : x ∈ a0 :: a1 :: a2 :: a3 :: a4 :: a5 :: a6 :: a7 :: x :: l := .tail _ mm7
theorem mm9 {α : Type} {a0 a1 a2 a3 a4 a5 a6 a7 a8 x : α} {l : List α} : x ∈ a0 :: a1 :: a2 :: a3 :: a4 :: a5 :: a6 :: a7 :: a8 :: x :: l := .tail _ mm8
theorem mm10 {α : Type} {a0 a1 a2 a3 a4 a5 a6 a7 a8 a9 x : α} {l : List α} : x ∈ a0 :: a1 :: a2 :: a3 :: a4 :: a5 :: a6 :: a7 :: a8 :: a9 :: x :: l := .tail _ mm9
theorem mm11 {α : Type} {a0 a1 a2 a3 a4 a5 a6 a7 a8 a9 a10 x : α} {l : List α} : x ∈ a0 :: a1 :: a2 :: a3 :: a4 :: a5 :: a6 :: a7 :: a8 :: a9 :: a10 :: x :: l := .tail _ mm10
theorem mm12 {α : Type} {a0 a1 a2 a3 a4 a5 a6 a7 a8 a9 a10 a11 x : α} {l : List α} : x ∈ a0 :: a1 :: a2 :: a3 :: a4 :: a5 :: a6 :: a7 :: a8 :: a9 :: a10 :: a11 :: x :: l := .tail _ mm11
theorem mm13 {α : Type} {a0 a1 a2 a3 a4 a5 a6 a7 a8 a9 a10 a11 a12 x : α} {l : List α} : x ∈ a0 :: a1 :: a2 :: a3 :: a4 :: a5 :: a6 :: a7 :: a8 :: a9 :: a10 :: a11 :: a12 :: x :: l := .tail _ mm12
theorem mm14 {α : Type} {a0 a1 a2 a3 a4 a5 a6 a7 a8 a9 a10 a11 a12 a13 x : α} {l : List α} : x ∈ a0 :: a1 :: a2 :: a3 :: a4 :: a5 :: a6 :: a7 :: a8 :: a9 :: a10 :: a11 :: a12 :: a13 :: x :: l := .tail _ mm13
theorem mm15 {α : Type} {a0 a1 a2 a3 a4 a5 a6 a7 a8 a9 a10 a11 a12 a13 a14 x : α} {l : List α} : x ∈ a0 :: a1 :: a2 :: a3 :: a4 :: a5 :: a6 :: a7 :: a8 :: a9 :: a10 :: a11 :: a12 :: a13 :: a14 :: x :: l := .tail _ mm14
theorem mm16 {α : Type} {a0 a1 a2 a3 a4 a5 a6 a7 a8 a9 a10 a11 a12 a13 a14 a15 x : α} {l : List α} : x ∈ a0 :: a1 :: a2 :: a3 :: a4 :: a5 :: a6 :: a7 :: a8 :: a9 :: a10 :: a11 :: a12 :: a13 :: a14 :: a15 :: x :: l := .tail _ mm15
theorem mm17 {α : Type} {a0 a1 a2 a3 a4 a5 a6 a7 a8 a9 a10 a11 a12 a13 a14 a15 a16 x : α} {l : List α} : x ∈ a0 :: a1 :: a2 :: a3 :: a4 :: a5 :: a6 :: a7 :: a8 :: a9 :: a10 :: a11 :: a12 :: a13 :: a14 :: a15 :: a16 :: x :: l := .tail _ mm16
theorem mm18 {α : Type} {a0 a1 a2 a3 a4 a5 a6 a7 a8 a9 a10 a11 a12 a13 a14 a15 a16 a17 x : α} {l : List α} : x ∈ a0 :: a1 :: a2 :: a3 :: a4 :: a5 :: a6 :: a7 :: a8 :: a9 :: a10 :: a11 :: a12 :: a13 :: a14 :: a15 :: a16 :: a17 :: x :: l := .tail _ mm17
theorem tk0 {x : Option Nat × Obj} {l : Heap} : Take x (x :: l) (l) := Take.head _ _
theorem tk1 {a0 x : Option Nat × Obj} {l : Heap} : Take x (a0 :: x :: l) (a0 :: l) := Take.tail tk0
theorem tk2 {a0 a1 x : Option Nat × Obj} {l : Heap} : Take x (a0 :: a1 :: x :: l) (a0 :: a1 :: l) := Take.tail tk1
theorem tk3 {a0 a1 a2 x : Option Nat × Obj} {l : Heap} : Take x (a0 :: a1 :: a2 :: x :: l) (a0 :: a1 :: a2 :: l) := Take.tail tk2
theorem tk4 {a0 a1 a2 a3 x : Option Nat × Obj} {l : Heap} : Take x (a0 :: a1 :: a2 :: a3 :: x :: l) (a0 :: a1 :: a2 :: a3 :: l) := Take.tail tk3
theorem tk5 {a0 a1 a2 a3 a4 x : Option Nat × Obj} {l : Heap} : Take x (a0 :: a1 :: a2 :: a3 :: a4 :: x :: l) (a0 :: a1 :: a2 :: a3 :: a4 :: l) := Take.tail tk4
theorem tk6 {a0 a1 a2 a3 a4 a5 x : Option Nat × Obj} {l : Heap} : Take x (a0 :: a1 :: a2 :: a3 :: a4 :: a5 :: x :: l) (a0 :: a1 :: a2 :: a3 :: a4 :: a5 :: l) := Take.tail tk5
theorem tk7 {a0 a1 a2 a3 a4 a5 a6 x : Option Nat × Obj} {l : Heap} : Take x (a0 :: a1 :: a2 :: a3 :: a4 :: a5 :: a6 :: x :: l) (a0 :: a1 :: a2 :: a3 :: a4 :: a5 :: a6 :: l) := Take.tail tk6
theorem tk8 {a0 a1 a2 a3 a4 a5 a6 a7 x : Option Nat × Obj} {l : Heap} : Take x (a0 :: a1 :: a2 :: a3 :: a4 :: a5 :: a6 :: a7 :: x :: l) (a0 :: a1 :: a2 :: a3 :: a4 :: a5 :: a6 :: a7 :: l) := Take.tail tk7
theorem tk9 {a0 a1 a2 a3 a4 a5 a6 a7 a8 x : Option Nat × Obj} {l : Heap} : Take x (a0 :: a1 :: a2 :: a3 :: a4 :: a5 :: a6 :: a7 :: a8 :: x :: l) (a0 :: a1 :: a2 :: a3 :: a4 :: a5 :: a6 :: a7 :: a8 :: l) := Take.tail tk8
theorem tk10 {a0 a1 a2 a3 a4 a5 a6 a7 a8 a9 x : Option Nat × Obj} {l : Heap} : Take x (a0 :: a1 :: a2 :: a3 :: a4 :: a5 :: a6 :: a7 :: a8 :: a9 :: x :: l) (a0 :: a1 :: a2 :: a3 :: a4 :: a5 :: a6 :: a7 :: a8 :: a9 :: l) := Take.tail tk9
theorem tk11 {a0 a1 a2 a3 a4 a5 a6 a7 a8 a9 a10 x : Option Nat × Obj} {l : Heap} : Take x (a0 :: a1 :: a2 :: a3 :: a4 :: a5 :: a6 :: a7 :: a8 :: a9 :: a10 :: x :: l) (a0 :: a1 :: a2 :: a3 :: a4 :: a5 :: a6 :: a7 :: a8 :: a9 :: a10 :: l) := Take.tail tk10
theorem tk12 {a0 a1 a2 a3 a4 a5 a6 a7 a8 a9 a10 a11 x : Option Nat × Obj} {l : Heap} : Take x (a0 :: a1 :: a2 :: a3 :: a4 :: a5 :: a6 :: a7 :: a8 :: a9 :: a10 :: a11 :: x :: l) (a0 :: a1 :: a2 :: a3 :: a4 :: a5 :: a6 :: a7 :: a8 :: a9 :: a10 :: a11 :: l) := Take.tail tk11
theorem tk13 {a0 a1 a2 a3 a4 a5 a6 a7 a8 a9 a10 a11 a12 x : Option Nat × Obj} {l : Heap} : Take x (a0 :: a1 :: a2 :: a3 :: a4 :: a5 :: a6 :: a7 :: a8 :: a9 :: a10 :: a11 :: a12 :: x :: l) (a0 :: a1 :: a2 :: a3 :: a4 :: a5 :: a6 :: a7 :: a8 :: a9 :: a10 :: a11 :: a12 :: l) := Take.tail tk12
theorem tk14 {a0 a1 a2 a3 a4 a5 a6 a7 a8 a9 a10 a11 a12 a13 x : Option Nat × Obj} {l : Heap} : Take x (a0 :: a1 :: a2 :: a3 :: a4 :: a5 :: a6 :: a7 :: a8 :: a9 :: a10 :: a11 :: a12 :: a13 :: x :: l) (a0 :: a1 :: a2 :: a3 :: a4 :: a5 :: a6 :: a7 :: a8 :: a9 :: a10 :: a11 :: a12 :: a13 :: l) := Take.tail tk13
theorem tk15 {a0 a1 a2 a3 a4 a5 a6 a7 a8 a9 a10 a11 a12 a13 a14 x : Option Nat × Obj} {l : Heap} : Take x (a0 :: a1 :: a2 :: a3 :: a4 :: a5 :: a6 :: a7 :: a8 :: a9 :: a10 :: a11 :: a12 :: a13 :: a14 :: x :: l) (a0 :: a1 :: a2 :: a3 :: a4 :: a5 :: a6 :: a7 :: a8 :: a9 :: a10 :: a11 :: a12 :: a13 :: a14 :: l) := Take.tail tk14
theorem tk16 {a0 a1 a2 a3 a4 a5 a6 a7 a8 a9 a10 a11 a12 a13 a14 a15 x : Option Nat × Obj} {l : Heap} : Take x (a0 :: a1 :: a2 :: a3 :: a4 :: a5 :: a6 :: a7 :: a8 :: a9 :: a10 :: a11 :: a12 :: a13 :: a14 :: a15 :: x :: l) (a0 :: a1 :: a2 :: a3 :: a4 :: a5 :: a6 :: a7 :: a8 :: a9 :: a10 :: a11 :: a12 :: a13 :: a14 :: a15 :: l) := Take.tail tk15
def Zh5 : Value → Nat → Value
  | .agg cs, q => cs.getD q undef
  | _, _ => undef
theorem Gone.refl (R : Heap) : List.Perm R ([] ++ R) := List.Perm.refl R
section rules
variable {C : Cx} {ops : Array Oper} {Q : Exit → Act → World → Prop} {l : List Nat} {E : Env} {H R : Heap} {i d : Nat} {ty : TypeId} {pos : String} {af : Array Edge} {g : Option (Nat × Bool)}
theorem TO.nilCheck {x : Operand} {p : Addr} (ho : ops[i]? = some ⟨some d, .nilCheck x, ty, pos, af, g⟩) (hg : gdB ops E g = true) (hd : Nat.ble (d + 1) C.n = true) (hx : ev E x = some (.pointer (some p)))
    (k : TO C ops Q l ((d, .pointer (some p)) :: E) H) : TO C ops Q (i :: l) E H :=
  TO.val ho hg hd (by simp) (fun a w hf _ => by simp [execOp, hf.ev hx]) k
end rules
section rules
variable {C : Cx} {ops : Array Oper} {Q : Act → Prop} {l : List Nat} {E : Env} {H R : Heap} {i d : Nat} {ty : TypeId} {pos : String} {af : Array Edge} {g : Option (Nat × Bool)}
theorem TQ.nilCheck {x : Operand} {p : Addr} (ho : ops[i]? = some ⟨some d, .nilCheck x, ty, pos, af, g⟩) (hg : gdB ops E g = true) (hd : Nat.ble (d + 1) C.n = true) (hx : ev E x = some (.pointer (some p)))
    (k : TQ C ops Q l ((d, .pointer (some p)) :: E) H) : TQ C ops Q (i :: l) E H :=
  TQ.val ho hg hd (by simp) (fun a w hf _ => by simp [execOp, hf.ev hx]) k
end rules
section draw
variable {C : Cx} {ops : Array Oper} {Q : Exit → Act → World → Prop} {E : Env} {H : Heap}
theorem Zbx {A B Tl : Heap} (X Hx : Heap) : List.Perm (X ++ ((A ++ Tl) ++ (B ++ Hx))) (X ++ (A ++ (B ++ (Tl ++ Hx)))) := by
 refine List.Perm.append_left X ?_
 rw [List.append_assoc]
 refine List.Perm.append_left A ?_
 rw [← List.append_assoc, ← List.append_assoc]
 exact List.Perm.append_right Hx List.perm_append_comm
theorem ObQ.tail {S : List Sp} {W : Env} {Hc : Heap} {i : Nat} (Tl : Heap) (h : ObQ C ops Q S W Hc i) : ObQ C ops Q S W (Hc ++ Tl) i := by
 intro vs es Es Hx hr a w hf hi
 refine Zay (l2 := []) (fun e a w hne hq => ?_) (fun a w hq => ?_) [i] a w (h vs es Es (Tl ++ Hx) hr a w hf (hi.perm (Zbx [] Hx)))
 · cases e <;> first | exact absurd rfl hne | exact hq
 ·
  obtain ⟨v, e', h1, h2, h3⟩ := hq
  exact ⟨v, e', h1, h2, h3.perm (Zbx e' Hx).symm⟩
theorem ObE.tail {S : List Sp} {HR : Nat → List Value → Heap → Prop} {hd : List (List Nat)} {W : Env} {Hc : Heap} {i : Nat} (Tl : Heap) (h : ObE C ops Q S HR hd W Hc i) : ObE C ops Q S HR hd W (Hc ++ Tl) i := by
 intro vs es Es Hx hb hr hh a w hf hi
 refine Zay (l2 := []) (fun e a w hne hq => ?_) (fun a w hq => ?_) [i] a w (h vs es Es (Tl ++ Hx) hb hr hh a w hf (hi.perm (Zbx hb Hx)))
 · cases e <;> first | exact absurd rfl hne | exact hq
 ·
  obtain ⟨v, hb', h1, h2, h3, h4⟩ := hq
  exact ⟨v, hb', h1, h2, h3, h4.perm (Zbx hb' Hx).symm⟩
theorem ObsG.tail {S : List Sp} {HR : Nat → List Value → Heap → Prop} {hd : List (List Nat)} {W : Env} {Hc : Heap} (Tl : Heap) : ∀ {l : List Nat}, ObsG C ops Q S HR hd W Hc l → ObsG C ops Q S HR hd W (Hc ++ Tl) l
 | [], _ => trivial
 | i :: l, ⟨h1, h2⟩ => by
  refine ⟨?_, ObsG.tail Tl h2⟩
  cases he : Zds S i with
  | true => rw [he] at h1; exact ObE.tail Tl h1
  | false => rw [he] at h1; exact ObQ.tail Tl h1
end draw
end Go.Acq
namespace Go.Acq
open Go Go.RowKit Go.Conc
abbrev chanO (q : IntKind) (x : Chan) (s r : Nat) : Obj := .chan x.cap (x.buf.map (Value.int q)).toArray false s r false
def wpK (P : Program) (c : Code) (Q : Exit → Act → World → Prop) (a : Act) (w : World) : Prop :=
  ∀ (b : Frame) (k : List Item) (cs : List Frame), b.kind ≠ .early → b.roundOf = none →
    ∃ e a' w', Q e a' w' ∧ ArrivesIn (Machine.fenced P (FW none)) P (lone (b.atR a (.code c :: k)) cs w) b k cs e a' w'
def wpOK (P : Program) (ops : Array Oper) (Q : Exit → Act → World → Prop) (l : List Nat) (a : Act) (w : World) : Prop :=
  ∀ (b : Frame) (k : List Item) (cs : List Frame), b.kind ≠ .early → b.roundOf = none →
    ∃ e a' w', Q e a' w' ∧ ArrivesIn (Machine.fenced P (FW none)) P (lone (b.atR a (.inRegion ops l :: k)) cs w) b k cs e a' w'
def TK (C : Cx) (c : Code) (Q : Exit → Act → World → Prop) (E : Env) (H : Heap) : Prop := ∀ a w, Fits C.n C.D E a → Inv C.w0 C.M w H → wpK C.P c Q a w
def TOK (C : Cx) (ops : Array Oper) (Q : Exit → Act → World → Prop) (l : List Nat) (E : Env) (H : Heap) : Prop := ∀ a w, Fits C.n C.D E a → Inv C.w0 C.M w H → wpOK C.P ops Q l a w
def blkAt : Value → Nat
  | .pointer (some a) => a.block
  | _ => 0
theorem Ze5 (n : Nat) : (FW none).room n := fun d hd => by cases hd
section
variable {C : Cx} {Q : Exit → Act → World → Prop} {E E' : Env} {H H' R : Heap} {x y c : Code} {ops : Array Oper} {l : List Nat} {i d : Nat} {ty : TypeId} {pos : String} {af : Array Edge} {g : Option (Nat × Bool)}
theorem Zbc (hρ : C.ρ = none) (h : T C c Q E H) : TK C c Q E H := fun a w hf hi b k cs _ hro => by
 have := h a w hf hi
 rw [hρ] at this
 exact this b k cs hro trivial (Ze5 _)
theorem TK.seq (h : TK C x (Exit.then (wpK C.P y Q) Q) E H) : TK C (.seq x y) Q E H := fun a w hf hi b k cs hk hro => by
 have h0 : (lone (b.atR a (.code (.seq x y) :: k)) cs w).fenced C.P (FW none) := fenced_calm trivial (Ze5 (cs.length + 1 + 0)) rfl
 obtain ⟨e, a₁, w₁, hq, harr⟩ := h a w hf hi b (.code y :: k) cs hk hro
 cases e with
 | normal =>
  obtain ⟨e₂, a₂, w₂, hq₂, harr₂⟩ := hq b k cs hk hro
  exact ⟨e₂, a₂, w₂, hq₂, .of_steps (.head h0 stepR_seq harr) harr₂⟩
 | exit id => exact ⟨_, a₁, w₁, hq, .of_steps (.one h0 stepR_seq) (.pass (x := .code y) rfl (fun _ _ => .inl (by simp)) harr)⟩
 | goto l => exact ⟨_, a₁, w₁, hq, .of_steps (.one h0 stepR_seq) (.pass (x := .code y) rfl (fun _ _ => .inl (by simp)) harr)⟩
 | ret => exact ⟨_, a₁, w₁, hq, .of_steps (.one h0 stepR_seq) (.pass (x := .code y) rfl (fun _ _ => .inl (by simp)) harr)⟩
 | panic ch => exact ⟨_, a₁, w₁, hq, .of_steps (.one h0 stepR_seq) (.pass (x := .code y) rfl (fun _ _ => .inl (by simp)) harr)⟩
 | outgrown => exact ⟨_, a₁, w₁, hq, .of_steps (.one h0 stepR_seq) (.pass (x := .code y) rfl (fun _ _ => .inl (by simp)) harr)⟩
theorem Z35 (h : TK C y Q E H) : X C (Exit.then (wpK C.P y Q) Q) .normal E H := h
theorem TK.block {id : Nat} (h : TK C c (Exit.inBlock id Q) E H) : TK C (.block id c) Q E H := fun a w hf hi b k cs hk hro => by
 have h0 : (lone (b.atR a (.code (.block id c) :: k)) cs w).fenced C.P (FW none) := fenced_calm trivial (Ze5 (cs.length + 1 + 0)) rfl
 obtain ⟨e, a₁, w₁, hq, harr⟩ := h a w hf hi b (.inBlock id :: k) cs hk hro
 cases e with
 | normal => exact ⟨.normal, a₁, w₁, hq, .head h0 stepR_block (StepsIn.trans harr (.one (fenced_calm trivial (Ze5 (cs.length + 1 + 0)) rfl) stepR_inBlock))⟩
 | exit id' =>
  by_cases hid : id' = id
  ·
   simp only [Exit.inBlock, hid, if_true] at hq
   exact ⟨.normal, a₁, w₁, hq, .head h0 stepR_block (harr.1 k (by simp [exitTo, hid]))⟩
  ·
   simp only [Exit.inBlock, hid, if_false] at hq
   have this : (id == id') = false := by simp; exact fun h => hid h.symm
   have hx : exitTo id' (.inBlock id :: k) = exitTo id' k := by simp [exitTo, this]
   exact ⟨.exit id', a₁, w₁, hq, fun k' hk => .head h0 stepR_block (harr.1 k' (by rw [hx]; exact hk)),
    fun hr' hk => let ⟨k₁, h1, h2⟩ := harr.2 hr' (by rw [hx]; exact hk); ⟨k₁, h1, .head h0 stepR_block h2⟩⟩
 | goto l =>
  have hx : gotoIn l (.inBlock id :: k) = gotoIn l k := by simp [gotoIn]
  exact ⟨_, a₁, w₁, hq, fun k' hk => .head h0 stepR_block (harr.1 k' (by rw [hx]; exact hk)),
   fun hr' hk => let ⟨k₁, h1, h2⟩ := harr.2 hr' (by rw [hx]; exact hk); ⟨k₁, h1, .head h0 stepR_block h2⟩⟩
 | ret => exact ⟨_, a₁, w₁, hq, .of_steps (.one h0 stepR_block) harr⟩
 | panic ch => exact ⟨_, a₁, w₁, hq, .of_steps (.one h0 stepR_block) harr⟩
 | outgrown => exact ⟨_, a₁, w₁, hq, .of_steps (.one h0 stepR_block) harr⟩
theorem Zki {o : Operand} {t : Bool} (ho : ev E o = some (.bool t)) (h : TK C (if t then x else y) Q E H) : TK C (.cond o x y) Q E H := fun a w hf hi b k cs hk hro =>
 let ⟨e, a', w', q, r⟩ := h a w hf hi b k cs hk hro; ⟨e, a', w', q, .of_steps (.one (fenced_calm trivial (Ze5 (cs.length + 1 + 0)) rfl) (stepR_cond (hf.ev ho))) r⟩
theorem Zhe {o : Operand} {b : Bool} (ho : ev E o = some (.bool b)) (hb : b = true) (ht : TK C x Q E H) : TK C (.cond o x y) Q E H := by subst hb; exact Zki ho ht
theorem Zhf {o : Operand} {b : Bool} (ho : ev E o = some (.bool b)) (hb : b = false) (ht : TK C y Q E H) : TK C (.cond o x y) Q E H := by subst hb; exact Zki ho ht
theorem TK.condPT {o : Operand} {p : Prop} {hp : Decidable p} (ho : ev E o = some (.bool (@decide p hp))) (hb : p) (ht : TK C x Q E H) : TK C (.cond o x y) Q E H := Zhe ho (decide_eq_true hb) ht
theorem TK.condPF {o : Operand} {p : Prop} {hp : Decidable p} (ho : ev E o = some (.bool (@decide p hp))) (hb : ¬p) (ht : TK C y Q E H) : TK C (.cond o x y) Q E H := Zhf ho (decide_eq_false hb) ht
theorem TK.skip (hρ : C.ρ = none) (h : X C Q .normal E H) : TK C .skip Q E H := Zbc hρ (T.skip h)
theorem TK.ret (hρ : C.ρ = none) (h : X C Q .ret E H) : TK C .ret Q E H := Zbc hρ (T.ret h)
theorem TK.weak (h : TK C c Q E' H') (hE : ∀ t v, Z50 E' t = some v → Z50 E t = some v) (hH : Pick H' H) : TK C c Q E H := fun a w hf hi => h a w (hf.weak hE) (hi.pick hH)
theorem Zjt (h : AllF E' E) (k : TK C c Q E' H) : TK C c Q E H := fun a w hf hi => k a w (hf.weak fun t v hv => h.sub t v hv) hi
theorem TK.region {id : Nat} {ll : List Nat} (hl : List.range ops.size = ll) (h : TOK C ops Q ll E H) : TK C (.region id ops false) Q E H := fun a w hf hi b k cs hk hro => by
 subst hl
 exact let ⟨e, a', w', q, r⟩ := h a w hf hi b k cs hk hro; ⟨e, a', w', q, .of_steps (.one (fenced_calm trivial (Ze5 (cs.length + 1 + 0)) rfl) stepR_region) r⟩
theorem Zhc (hρ : C.ρ = none) (h : TO C ops Q l E H) : TOK C ops Q l E H := fun a w hf hi b k cs _ hro => by
 have := h a w hf hi
 rw [hρ] at this
 exact wp_opsIn l a w this b k cs hro trivial (Ze5 _)
theorem wpQ_K {P : Program} {K : World → Prop} (l2 : List Nat) (l : List Nat) : ∀ a : Act, wpQ P ops K (fun a => ∀ w, K w → wpOK P ops Q l2 a w) l a → ∀ w, K w → wpOK P ops Q (l ++ l2) a w := by
 induction l with
 | nil => exact fun a h w hw => h w hw
 | cons i rest ih =>
  intro a h w hw b k cs hk hro
  have hb : (FW none).fn b.fn := trivial
  have hr := Ze5 (cs.length + 1 + 0)
  simp only [wpQ] at h
  show ∃ e a' w', Q e a' w' ∧ ArrivesIn (Machine.fenced P (FW none)) P (lone (b.atR a (.inRegion ops (i :: (rest ++ l2)) :: k)) cs w) b k cs e a' w'
  cases ho : ops[i]? with
  | none =>
   simp only [ho] at h
   obtain ⟨e, a', w', hq, harr⟩ := ih a h w hw b k cs hk hro
   have hs := stepR_op_skip (P := P) (b := b) (a := a) (k := k) (cs := cs) (w := w) (ops := ops) (i := i) (rest := rest ++ l2) (by simp [ho])
   simp only [ho, Option.bind_none, Act.put] at hs
   exact ⟨e, a', w', hq, .of_steps (.one (fenced_noOper hb hr ho) hs) harr⟩
  | some o =>
   simp only [ho] at h
   obtain ⟨hnd, hns, h⟩ := h
   have h0 : (lone (b.atR a (.inRegion ops (i :: (rest ++ l2)) :: k)) cs w).fenced P (FW none) := fenced_oper hb hr ho (fun _ _ => trivial)
   by_cases hx : Region.wanted o (yielded ops a.tmps) = true
   ·
    rw [if_pos hx] at h
    obtain ⟨v, h1, h2⟩ := h
    have h1 := h1 w hw
    generalize he : (execOp a.eval o).run P w = z at h1
    unfold Zcj at h1
    split at h1
    ·
     obtain ⟨rfl, rfl⟩ := h1
     obtain ⟨e, a', w', hq, harr⟩ := ih _ h2 _ hw b k cs hk hro
     refine ⟨e, a', w', hq, .of_steps (.one h0 ?_) harr⟩
     rw [Frame.atR_of_none hro, Frame.atR_of_none hro]
     exact step_solo_go rfl (stepG_value ho hx hk he)
    ·
     obtain ⟨rfl, h1⟩ := h1
     rename_i f args w0
     obtain ⟨e, w'', fr, ⟨rfl, hw''⟩, hsteps, hfn, hleave⟩ := ((callsIn_FW (ρ := none) (n := 0)).2 h1).2 (b.atR a (.inRegion ops (i :: (rest ++ l2)) :: k) :: cs) (Ze5 _)
     have henter : step P (lone (b.atR a (.inRegion ops (i :: (rest ++ l2)) :: k)) cs w0) = .next (lone (Frame.enter P f args .normal) (b.atR a (.inRegion ops (i :: (rest ++ l2)) :: k) :: cs) w0) :=
      step_lone_go (by rw [stepGR_op ho hx, Oper.semAt_eq _ _ _ hnd]; simp [stepG.apply, he, Frame.atR])
     have hl : (lone fr (b.atR a (.inRegion ops (i :: (rest ++ l2)) :: k) :: cs) w'').fenced P (FW none) := fenced_leaving (n := 0) trivial (Ze5 _) hleave
     obtain ⟨e, a', w₃, hq, harr⟩ := ih _ h2 _ hw'' b k cs hk hro
     refine ⟨e, a', w₃, hq, .of_steps (.head h0 henter (StepsIn.trans hsteps (.one hl ?_))) harr⟩
     have hfin : (b.atR a (.inRegion ops (i :: (rest ++ l2)) :: k)).finish v = b.atR (a.put o.dst v) (.inRegion ops (rest ++ l2) :: k) := by rw [Frame.finish_atR, ho]; rfl
     rw [← hfin]; exact step_leave_returned hleave
    · exact h1.elim
   ·
    rw [if_neg hx] at h
    obtain ⟨e, a', w', hq, harr⟩ := ih _ h w hw b k cs hk hro
    have hs := stepR_op_skip (P := P) (b := b) (a := a) (k := k) (cs := cs) (w := w) (ops := ops) (i := i) (rest := rest ++ l2) (by simp [ho]; simpa using hx)
    simp only [ho, Option.bind_some] at hs
    exact ⟨e, a', w', hq, .of_steps (.one h0 hs) harr⟩
theorem TOK.pre (l1 l2 : List Nat) {l : List Nat} (hl : l1 ++ l2 = l) (h : TQ C ops (fun a => ∀ w, Inv C.w0 C.M w H → wpOK C.P ops Q l2 a w) l1 E H) : TOK C ops Q l E H := fun a w hf hi => by
 subst hl
 exact wpQ_K l2 l1 a (h a hf) w hi
theorem TQ.doneK {l2 : List Nat} (h : TOK C ops Q l2 E H) : TQ C ops (fun a => ∀ w, Inv C.w0 C.M w H → wpOK C.P ops Q l2 a w) [] E H := fun a hf w hi => h a w hf hi
theorem TOK.comm {o : Oper} {cases : Array CommCase} {blocking : Bool} {shape : CommShape} {v : Value} (ho : ops[i]? = some o) (hg : gdB ops E o.guard = true)
    (hr : ∀ a w, Fits C.n C.D E a → Inv C.w0 C.M w H → (execOp a.eval o).run C.P w = .ok (.comm cases blocking shape) w)
    (hs : ∀ (b : Frame) (cs : List Frame) (w : World) (es : Array Event), Inv C.w0 C.M w H → stepG C.P true (G b cs) w = .comm (G b cs) cases blocking shape w es → ∃ w', step C.P (solo (G b cs) w) = .next (solo (G (b.finish v) cs) w') ∧ Inv C.w0 C.M w' H')
    (kk : ∀ a w, Fits C.n C.D E a → Inv C.w0 C.M w H' → wpOK C.P ops Q l (a.put o.dst v) w) : TOK C ops Q (i :: l) E H := fun a w hf hi b k cs hk hro => by
  have hx : Region.wanted o (yielded ops a.tmps) = true := Zcn hf hg
  obtain ⟨w', h1, h2⟩ := hs _ cs w _ hi (stepG_comm (b := b) (k := k) (cs := cs) (rest := l) ho hx hk (hr a w hf hi))
  obtain ⟨e, a', w'', hq, harr⟩ := kk a w' hf h2 b k cs hk hro
  refine ⟨e, a', w'', hq, .of_steps (.one (fenced_oper trivial (Ze5 (cs.length + 1 + 0)) ho (fun _ _ => trivial)) ?_) harr⟩
  rw [Frame.atR_of_none hro, Frame.atR_of_none hro]
  rw [Frame.finish_at, ho] at h1
  exact h1
theorem Zk2 {w : World} {c : Nat} {q : IntKind} {x x' : Chan} {s r s' r' : Nat} (hi : Inv C.w0 C.M w H) (ht : Take (some c, chanO q x s r) H R) :
    w.heap[c]? = some (chanO q x s r) ∧ Inv C.w0 C.M (w.setChan c x'.cap (x'.buf.map (Value.int q)).toArray false s' r' false) ((some c, chanO q x' s' r') :: R) := by
  have hb := hi.own _ _ ht.mem
  have hlt : c < w.heap.size := (Array.getElem?_eq_some_iff.1 hb).1
  refine ⟨hb, Inv.upd (o' := chanO q x' s' r') hi ht rfl rfl rfl (size_setChan ..) (heap_setChan _ _ _ _ _ _ _ _ hlt) fun k hk => ?_⟩
  simp only [World.setChan]; rw [Array.getElem?_setIfInBounds_ne (Ne.symm hk)]
theorem TOK.send {x y : Operand} {c : Nat} {q : IntKind} {u : Chan} {s r : Nat} {v : Int} (hroom : u.buf.length < u.cap) (ho : ops[i]? = some ⟨none, .send x y, ty, pos, af, g⟩) (hg : gdB ops E g = true)
    (hx : ev E x = some (.chan (some c))) (hy : ev E y = some (.int q v)) (ht : Take (some c, chanO q u s r) H R)
    (kk : TOK C ops Q l E ((some c, chanO q (u.put v) (s + 1) r) :: R)) : TOK C ops Q (i :: l) E H :=
  TOK.comm (cases := #[scase c (.int q v) (.tuple #[])]) (blocking := true) (shape := .send) (v := undef) (H' := (some c, chanO q (u.put v) (s + 1) r) :: R) ho hg
    (fun a w hf _ => by simp [execOp, hf.ev hx, hf.ev hy, scase])
    (fun b cs w es hi h => by
      obtain ⟨h1, h2⟩ := Zk2 (x' := u.put v) (s' := s + 1) (r' := r) hi ht
      refine ⟨_, ?_, h2⟩
      rw [step_lone_send_room h h1 (by simpa using hroom)]
      simp [Chan.put])
    (fun a w hf hi => kk a w hf hi)
theorem TOK.selD {x : Operand} {et : TypeId} {c : Nat} {q : IntKind} {u : Chan} {s r : Nat} {z : Value} (hbuf : u.buf = []) (ho : ops[i]? = some ⟨some d, .select #[⟨x, none, et⟩] false, ty, pos, af, g⟩) (hg : gdB ops E g = true) (hd : Nat.ble (d + 1) C.n = true)
    (hx : ev E x = some (.chan (some c))) (hz : Z32 C.P et = some z) (hm : (some c, chanO q u s r) ∈ H)
    (kk : TOK C ops Q l ((d, .tuple #[.int .i64 (-1), .bool false, z]) :: E) H) : TOK C ops Q (i :: l) E H :=
  TOK.comm (cases := #[rcase c z]) (blocking := false) (shape := .select) (v := .tuple #[goInt (-1), .bool false, z]) (H' := H) ho hg
    (fun a w hf _ => by simp [execOp, hf.ev hx, rcase, Ze2 hz])
    (fun b cs w es hi h => ⟨w, step_lone_select_default (cap := u.cap) (s := s) (r := r) (tm := false) h (by have h1 := hi.own _ _ hm; simp only [chanO, hbuf] at h1; exact h1), hi⟩)
    (fun a w hf hi => kk _ w (hf.put hd _) hi)
theorem res_r0 (c : Nat) (z v : Value) (ok : Bool) : commResult #[rcase c z] .select ((0 : Nat) : Int) v ok = .tuple #[goInt 0, .bool ok, v] := by
 simp [commResult, rcase, List.zipIdx_cons]
theorem TOK.selR {x : Operand} {et : TypeId} {c : Nat} {q : IntKind} {u : Chan} {s r : Nat} {z : Value} (hbuf : u.buf ≠ []) (ho : ops[i]? = some ⟨some d, .select #[⟨x, none, et⟩] false, ty, pos, af, g⟩) (hg : gdB ops E g = true) (hd : Nat.ble (d + 1) C.n = true)
    (hx : ev E x = some (.chan (some c))) (hz : Z32 C.P et = some z) (ht : Take (some c, chanO q u s r) H R)
    (kk : TOK C ops Q l ((d, .tuple #[.int .i64 0, .bool true, .int q (u.buf.getD 0 0)]) :: E) ((some c, chanO q u.cut s (r + 1)) :: R)) : TOK C ops Q (i :: l) E H := by
  obtain ⟨cap, buf⟩ := u
  cases buf with
  | nil => exact absurd rfl hbuf
  | cons v0 l0 =>
    refine TOK.comm (cases := #[rcase c z]) (blocking := false) (shape := .select) (v := .tuple #[goInt 0, .bool true, .int q v0]) (H' := (some c, chanO q (Chan.cut ⟨cap, v0 :: l0⟩) s (r + 1)) :: R) ho hg
      (fun a w hf _ => by simp [execOp, hf.ev hx, rcase, Ze2 hz]) (fun b cs w es hi h => ?_) (fun a w hf hi => kk _ w (hf.put hd _) hi)
    obtain ⟨h1, h2⟩ := Zk2 (x' := Chan.cut ⟨cap, v0 :: l0⟩) (s' := s) (r' := r + 1) hi ht
    refine ⟨_, ?_, h2⟩
    rw [step_lone_sel_recv_buf (k := 0) (c := c) (z := z) h rfl (fun m c' hm hc => ?_) h1 (by simp), res_r0]
    · simp [Chan.cut, List.take_of_length_le]
    · rcases m with _ | m
      · exact absurd rfl hm
      · simp at hc
def chanT (P : Program) (t : TypeId) : Option TypeId :=
  match P.underlying t with
  | some (.chan _ e) => some e
  | _ => none
theorem Zl0 {P : Program} {t e : TypeId} (h : chanT P t = some e) : ∃ d, P.underlying t = some (.chan d e) := by
 unfold chanT at h
 split at h
 ·
  rename_i d e' he
  injection h with h; subst h
  exact ⟨d, he⟩
 · cases h
theorem Zoj {t e : TypeId} {x : Operand} {n : Int} {b q : Nat} {kq : IntKind} (h : chok n b) (ho : ops[i]? = some ⟨some d, .makeChan t x, ty, pos, af, g⟩) (hg : gdB ops E g = true) (hd : Nat.ble (d + 1) C.n = true)
    (hx : ev E x = some (.int .i64 n)) (hc : chanT C.P t = some e) (hb : Z5p C.P e = some b) (k : ∀ c, TO C ops Q l ((d, .chan (some c)) :: E) ((some c, chanO kq ⟨n.toNat, []⟩ 0 0) :: H)) : TO C ops Q (i :: l) E H := by
  obtain ⟨dir, h1⟩ := Zl0 hc
  obtain ⟨i0, h2, h3⟩ := Option.map_eq_some_iff.1 hb
  obtain ⟨m, rfl⟩ : ∃ m : Nat, n = m := ⟨n.toNat, by omega⟩
  exact Zgf (fun c => .chan (some c)) ho hg hd (by simp) (fun a w hf _ => by
    have := run_makeChan (P := C.P) (w := w) h1 h2 .i64 m (by omega) (by rw [h3]; omega)
    simp only [execOp, hf.ev hx]
    simp [this]
    rfl) k
theorem Zkg {t T' : TypeId} {x : Operand} {b o k : Nat} {cs vs : List Value} {fr : Nat × Nat} (ho : ops[i]? = some ⟨some d, .load t x, ty, pos, af, g⟩) (hg : gdB ops E g = true) (hd : Nat.ble (d + 1) C.n = true)
    (hx : ev E x = some (.pointer (some ⟨b, o, none⟩))) (hT : Zaa C.P t k = true) (hm : (some b, Obj.cells cs.toArray T' fr) ∈ H) (hv : (cs.drop o).take k = vs) (hk : vs.length = k)
    (kk : TO C ops Q l ((d, .agg vs.toArray) :: E) H) : TO C ops Q (i :: l) E H :=
  Zdt ho hg hd hx hT hk (fun w hi j v hj => by
    rw [Addr.add_mid, hi.cell_own hm]
    subst hv
    rw [List.getElem?_take] at hj
    split at hj
    · rw [List.getElem?_drop] at hj; simpa using hj
    · cases hj) kk
theorem X.obQn {S : List Sp} {W Es B B' : Env} {Hc Hx : Heap} {e' De : Heap} {vl : List Value} {H' : Heap} (hs : Z3e ops i = none) (hr : Zku S i vl undef e') (hH : Pick (e' ++ (Hc ++ (De ++ Hx))) H') (hB : B = B') :
    X C (fun e a w => match e with
      | .normal => ∃ v e', Zku S i vl v e' ∧ Fits C.n C.D (putG (Z3e ops i) v (B ++ (W ++ Es))) a ∧ Inv C.w0 C.M w (e' ++ (Hc ++ (De ++ Hx)))
      | e => Q e a w) .normal (B' ++ (W ++ Es)) H' := by
  subst hB
  exact fun _ _ hf hi => ⟨undef, e', hr, by rw [hs]; exact hf, hi.pick hH⟩
theorem Zgh {P : Program} {f : FuncId} {fn : Func} {c : Code} {vs : List Value} {w : World} {M : List Nat} {H : Heap} {Post : Value → Heap → Prop}
    (hf : P.funcs[f]? = some fn) (hb : fn.body = some c) (hn : Nat.ble vs.length fn.ntmps = true) (hi : Inv w M w H)
    (h : TK ⟨P, none, fn.ntmps, [], w, M⟩ c (bodyPost P fn (Zor w M Post)) (Zef 0 vs) H) : Fnc P f vs.toArray w M Post := by
  have hn' := Nat.le_of_ble_eq_true hn
  refine callsIn_FW (ρ := none) (n := 0) |>.1 ⟨trivial, fun cs hr => ?_⟩
  let b : Frame := { (default : Frame) with fn := f, kind := .normal, roundOf := none }
  have henter : Frame.enter P f vs.toArray .normal = b.atR { tmps := vs.toArray ++ Array.replicate (fn.ntmps - vs.toArray.size) undef, defers := [] } [.code c] := by
    simp [Frame.enter, Frame.atR, hf, hb, b]
  obtain ⟨e, a', w', hq, harr⟩ := h { tmps := vs.toArray ++ Array.replicate (fn.ntmps - vs.toArray.size) undef, defers := [] } w ⟨by simp; omega, rfl, fun t v hv => by
    obtain ⟨_, h2⟩ := Z9y vs 0 t v hv
    rw [Nat.sub_zero] at h2
    have hlt := (List.getElem?_eq_some_iff.1 h2).1
    simp only [Array.getD_eq_getD_getElem?]
    rw [Array.getElem?_append_left (by simpa using hlt)]
    simp [h2]⟩ hi b [] cs (by simp [b]) rfl
  rw [← henter] at harr
  cases e with
  | normal =>
    obtain ⟨hd, v, hr', hR⟩ := hq
    exact ⟨.returned v, w', _, hR, StepsIn.trans harr (.one (fenced_calm (fr := b.atR a' []) trivial hr rfl) (stepR_end rfl)), rfl, rfl, hd, rfl, fn, hf, hr'⟩
  | ret =>
    obtain ⟨hd, v, hr', hR⟩ := hq
    obtain ⟨todo, hs⟩ := harr.1 rfl
    exact ⟨.returned v, w', _, hR, hs, rfl, rfl, hd, rfl, fn, hf, hr'⟩
  | panic chain =>
    obtain ⟨hd, hR⟩ := hq
    obtain ⟨todo, hs⟩ := harr
    exact ⟨.panicked chain, w', _, hR, hs, rfl, rfl, hd, fn, hf⟩
  | exit id => exact hq.elim
  | goto l => exact hq.elim
  | outgrown => exact ⟨.outgrown, w', b, hq, harr.resolve_left (by simp [b]), rfl, trivial⟩
end
end Go.Acq
namespace Go.Acq
open Go Go.RowKit
def eqFs (P : Program) : List Field → List IntKind → Nat → Bool
  | [], [], _ => true
  | f :: fs, k :: ks, o => f.name != "_" && Nat.beq f.offset o && (match P.underlying f.type with | some (.int q) => decide (q = k) | _ => false) && eqFs P fs ks (o + 1)
  | _, _, _ => false
def eqsT (P : Program) (t : TypeId) (ks : List IntKind) : Bool :=
  (match P.underlying t with | some (.struct fs) => eqFs P fs.toList ks 0 | _ => false) && !P.stoodInHeld t && !P.eqGuardType P.depth t
theorem Zjy {P : Program} {w : World} {n : Nat} {xs ys : Array Value} : ∀ (fs : List Field) (ks : List IntKind) (o : Nat) (us ws : List Int), eqFs P fs ks o = true → us.length = ks.length → ws.length = ks.length →
    (∀ i, i < ks.length → xs[o + i]? = some (.int (ks.getD i .i64) (us.getD i 0)) ∧ ys[o + i]? = some (.int (ks.getD i .i64) (ws.getD i 0))) → (Op.eqFields (n + 1) xs ys fs).run P w = .ok (decide (us = ws)) w
  | [], [], _, [], [], _, _, _, _ => by simp [Op.eqFields]
  | f :: fs, k :: ks, o, a :: us, b :: ws, h, ha, hb, hx => by
    simp only [eqFs, Bool.and_eq_true, bne_iff_ne, ne_eq] at h
    obtain ⟨⟨⟨h1, h2⟩, h3⟩, h4⟩ := h
    have h2 : f.offset = o := Nat.eq_of_beq_eq_true h2
    split at h3
    · rename_i q hq
      have h3 : q = k := of_decide_eq_true h3
      subst h3
      have h0 := hx 0 (by simp)
      simp only [Nat.add_zero, List.getD_cons_zero] at h0
      have ih := Zjy (w := w) (n := n) fs ks (o + 1) us ws h4 (by simpa using ha) (by simpa using hb) (fun i hi => by
        have := hx (i + 1) (by simpa using hi)
        simp only [List.getD_cons_succ] at this
        rwa [show o + 1 + i = o + (i + 1) by omega])
      have hagg : ∀ w, (isAgg f.type).run P w = .ok false w := fun w => by simp [isAgg, run_underlying hq]
      have hp : ∀ (cs : Array Value) v, cs[f.offset]? = some v → ∀ w, (part f.type cs f.offset).run P w = .ok v w := fun cs v hv w => by
        simp [part, hagg, hv]
      rw [← h2] at h0
      simp only [Op.eqFields, h1, not_false_eq_true, ne_eq, if_true]
      simp only [Sem.run_bind, hp _ _ h0.1, hp _ _ h0.2, Result.andThen_ok, run_equalIn_int w n f.type q q a b hq]
      by_cases hab : a = b
      · subst hab
        simp [ih]
      · simp [hab]
    · cases h3
section rules
variable {C : Cx} {ops : Array Oper} {Q : Exit → Act → World → Prop} {l : List Nat} {E : Env} {H R : Heap} {i d : Nat} {ty : TypeId} {pos : String} {af : Array Edge} {g : Option (Nat × Bool)}
theorem eqsT_run {P : Program} {t : TypeId} {ks : List IntKind} {us ws : List Int} (h : eqsT P t ks = true) (ha : us.length = ks.length) (hb : ws.length = ks.length) (w : World) :
    (Op.equal t (.agg ((ks.zip us).map fun p => Value.int p.1 p.2).toArray) (.agg ((ks.zip ws).map fun p => Value.int p.1 p.2).toArray)).run P w = .ok (decide (us = ws)) w := by
  simp only [eqsT, Bool.and_eq_true, Bool.not_eq_true'] at h
  obtain ⟨⟨h1, h2⟩, h3⟩ := h
  split at h1
  · rename_i fs hfs
    have hf : P.fieldsOf t = fs := by simp [Program.fieldsOf, hfs]
    have key : ∀ (cs : List Int), cs.length = ks.length → ∀ i, i < ks.length → (((ks.zip cs).map fun p => Value.int p.1 p.2).toArray)[0 + i]? = some (.int (ks.getD i .i64) (cs.getD i 0)) := fun cs hc i hi => by
      have e1 : ks[i]? = some (ks.getD i .i64) := by simp [List.getD_eq_getElem?_getD, hi]
      have e2 : cs[i]? = some (cs.getD i 0) := by simp [List.getD_eq_getElem?_getD, hc, hi]
      rw [Nat.zero_add, List.getElem?_toArray, List.getElem?_map, List.zip, List.getElem?_zipWith, e1, e2]
      rfl
    show (Op.equalIn (9999 + 1) t _ _).run P w = _
    rw [run_equalIn_agg w 9999 t _ _ (by rw [hf]; exact hfs) h2, hf]
    exact Zjy (n := 9998) fs.toList ks 0 us ws h1 ha hb fun i hi => ⟨key us ha i hi, key ws hb i hi⟩
  · cases h1
theorem Zom {t t2 : TypeId} {x y : Operand} {us ws : List Int} {va vb : Array Value} (ks : List IntKind) (ht : eqsT C.P t ks = true) (ha : us.length = ks.length) (hb : ws.length = ks.length)
    (hva : ((ks.zip us).map fun p => Value.int p.1 p.2).toArray = va) (hvb : ((ks.zip ws).map fun p => Value.int p.1 p.2).toArray = vb) (ho : ops[i]? = some ⟨some d, .binOp .eql t x y t2, ty, pos, af, g⟩) (hg : gdB ops E g = true) (hd : Nat.ble (d + 1) C.n = true)
    (hx : ev E x = some (.agg va)) (hy : ev E y = some (.agg vb)) (kk : TO C ops Q l ((d, .bool (decide (us = ws))) :: E) H) : TO C ops Q (i :: l) E H :=
  TO.val ho hg hd (by simp) (fun a w hf _ => by
    subst hva; subst hvb
    have h3 : C.P.eqGuardType C.P.depth t = false := by simp only [eqsT, Bool.and_eq_true, Bool.not_eq_true'] at ht; exact ht.2
    have := Zc3 (eqsT_run ht ha hb w) rfl
    simp only [execOp, hf.ev hx, hf.ev hy]
    simp [run_eqGuard_agg w _ _ _ _ _ _ h3, this]) kk
end rules
end Go.Acq
namespace Go.Proofs.Ytjeenmabclghoaa.Ax
open Go Go.Acq Go.RowKit Go.Proofs
set_option linter.unusedVariables false
set_option linter.unusedSimpArgs false
set_option maxHeartbeats 8000000
set_option maxRecDepth 20000
theorem Z6a : Try.prog.follows .mixedOrders = true := by kernel_rfl
theorem Z8a : Zaa Try.prog 136 2 = true := by kernel_rfl
theorem Zm3 : Zaa Try.prog 137 12 = true := by kernel_rfl
theorem Z2c : Zaa Try.prog 24 4 = true := by kernel_rfl
theorem Zfg : Zaa Try.prog 32 9 = true := by kernel_rfl
theorem Z7n : Zaa Try.prog 67 3 = true := by kernel_rfl
theorem TWBS4.b2 : Z5p Try.prog 2 = some 8 := by kernel_rfl
theorem Zcd : Z5p Try.prog 3 = some 8 := by kernel_rfl
theorem TWBS4.b4 : Z5p Try.prog 4 = some 1 := by kernel_rfl
theorem Zod : Z5p Try.prog 67 = some 24 := by kernel_rfl
theorem Zm2 : Z0q Try.prog 102 = true := by kernel_rfl
theorem Zm1 : Z0q Try.prog 111 = true := by kernel_rfl
theorem Zm0 : Z0q Try.prog 112 = true := by kernel_rfl
theorem Zlz : Z0q Try.prog 113 = true := by kernel_rfl
theorem Z69 : Z0q Try.prog 114 = true := by kernel_rfl
theorem Zgd : Z0q Try.prog 115 = true := by kernel_rfl
theorem Zly : Z0q Try.prog 116 = true := by kernel_rfl
theorem Zlx : Z0q Try.prog 117 = true := by kernel_rfl
theorem Zlw : Z0q Try.prog 118 = true := by kernel_rfl
theorem Zlv : Z0q Try.prog 119 = true := by kernel_rfl
theorem Zgc : Z0q Try.prog 121 = true := by kernel_rfl
theorem Zgb : Z0q Try.prog 122 = true := by kernel_rfl
theorem Zga : Z0q Try.prog 123 = true := by kernel_rfl
theorem Zg9 : Z0q Try.prog 125 = true := by kernel_rfl
theorem Zav : Z0q Try.prog 57 = true := by kernel_rfl
theorem Zoc : Z0q Try.prog 65 = true := by kernel_rfl
theorem Zob : Z0q Try.prog 79 = true := by kernel_rfl
theorem Zoa : Z0q Try.prog 85 = true := by kernel_rfl
theorem Zis : Z0q Try.prog 86 = true := by kernel_rfl
theorem Z68 : Z17 Try.prog 136 0 = some 0 := by kernel_rfl
theorem Z67 : Z17 Try.prog 136 1 = some 1 := by kernel_rfl
theorem Z2t : Z17 Try.prog 24 0 = some 0 := by kernel_rfl
theorem Z4p : Z17 Try.prog 24 1 = some 1 := by kernel_rfl
theorem Z5b : Z17 Try.prog 24 2 = some 2 := by kernel_rfl
theorem Z43 : Z17 Try.prog 24 3 = some 3 := by kernel_rfl
theorem Zff : Z17 Try.prog 32 3 = some 3 := by kernel_rfl
theorem Zbo : Z17 Try.prog 32 4 = some 4 := by kernel_rfl
theorem Zbn : Z17 Try.prog 32 5 = some 5 := by kernel_rfl
theorem Zfe : Z17 Try.prog 32 6 = some 6 := by kernel_rfl
theorem Zfd : Z17 Try.prog 32 7 = some 7 := by kernel_rfl
theorem Zfc : Z17 Try.prog 32 8 = some 8 := by kernel_rfl
theorem Z5a : Z17 Try.prog 67 0 = some 0 := by kernel_rfl
theorem Z63 : Z17 Try.prog 67 1 = some 1 := by kernel_rfl
theorem Z62 : Z17 Try.prog 67 2 = some 2 := by kernel_rfl
theorem Z37 : Z1q Try.prog 22 = some 67 := by kernel_rfl
theorem Zir : Z1q Try.prog 26 = some 2 := by kernel_rfl
theorem Z1x : Z1q Try.prog 27 = some 3 := by kernel_rfl
theorem Ziq : Z1q Try.prog 30 = some 4 := by kernel_rfl
theorem Z89 : Z1g Try.prog 136 = some 2 := by kernel_rfl
theorem Zlu : Z1g Try.prog 137 = some 12 := by kernel_rfl
theorem Zhb : Z1g Try.prog 2 = some 1 := by kernel_rfl
theorem Zo9 : Z1g Try.prog 22 = some 1 := by kernel_rfl
theorem Zip : Z1g Try.prog 24 = some 4 := by kernel_rfl
theorem Zo8 : Z1g Try.prog 26 = some 1 := by kernel_rfl
theorem Zcc : Z1g Try.prog 27 = some 1 := by kernel_rfl
theorem Z1p : Z1g Try.prog 3 = some 1 := by kernel_rfl
theorem Zo7 : Z1g Try.prog 30 = some 1 := by kernel_rfl
theorem Zfb : Z1g Try.prog 32 = some 9 := by kernel_rfl
theorem Zha : Z1g Try.prog 4 = some 1 := by kernel_rfl
theorem Z4g : Z1g Try.prog 67 = some 3 := by kernel_rfl
theorem Z88 : Try.prog.underlying 137 = some (.array 6 136) := by kernel_rfl
theorem Zg8 : Z2k Try.prog 148 = true := by kernel_rfl
theorem Za4 : Z2k Try.prog 2 = true := by kernel_rfl
theorem Z6s : Z2k Try.prog 22 = true := by kernel_rfl
theorem Zo6 : Z2k Try.prog 26 = true := by kernel_rfl
theorem Z6r : Z2k Try.prog 27 = true := by kernel_rfl
theorem Z0w : Z2k Try.prog 3 = true := by kernel_rfl
theorem Zo5 : Z2k Try.prog 30 = true := by kernel_rfl
theorem Z9j : Z2k Try.prog 33 = true := by kernel_rfl
theorem Z9i : Z2k Try.prog 83 = true := by kernel_rfl
theorem Z87 : Z32 Try.prog 136 = some (.agg #[.nilFunc, .int .i64 0]) := by kernel_rfl
theorem Zlt : Z32 Try.prog 137 = some (.agg #[.nilFunc, .int .i64 0, .nilFunc, .int .i64 0, .nilFunc, .int .i64 0, .nilFunc, .int .i64 0, .nilFunc, .int .i64 0, .nilFunc, .int .i64 0]) := by kernel_rfl
theorem TWBS4.z2 : Z32 Try.prog 2 = some (.int .i64 0) := by kernel_rfl
theorem Zio : Z32 Try.prog 24 = some (.agg #[.int .i64 0, .int .i64 0, .int .i64 0, .slice none 0 0]) := by kernel_rfl
theorem Zo4 : Z32 Try.prog 27 = some (.slice none 0 0) := by kernel_rfl
theorem Zcb : Z32 Try.prog 3 = some (.int .i64 0) := by kernel_rfl
theorem Zin : Z32 Try.prog 32 = some (.agg #[.int .i64 0, .int .i64 0, .int .i64 0, .slice none 0 0, .slice none 0 0, .slice none 0 0, .slice none 0 0, .slice none 0 0, .slice none 0 0]) := by kernel_rfl
theorem TWBS4.z4 : Z32 Try.prog 4 = some (.bool false) := by kernel_rfl
theorem Z9h : Z32 Try.prog 67 = some (.agg #[.int .i64 0, .int .i64 0, .int .i64 0]) := by kernel_rfl
theorem Znx : ElemT Try.prog 22 67 3 24 (.agg #[.int .i64 0, .int .i64 0, .int .i64 0]) := ⟨Z37, Z4g, Zod, Z9h, rfl⟩
theorem Znw : ElemT Try.prog 27 3 1 8 (.int .i64 0) := ⟨Z1x, Z1p, Zcd, Zcb, rfl⟩
theorem Z3r {x0 : Int} {n1 : Int} (w : World) {r0 : Int} (H : Z1w x0 n1 = some r0) : Fnc Try.prog 57 #[.int .i64 x0, .int .i64 n1] w [] (fun v N => v = .int .i64 r0 ∧ N = []) := by
 unfold Z1w at H; refine Fnc.enter (vs := [.int .i64 x0, .int .i64 n1]) Try.func57 rfl rfl (Inv.refl w) ?_; refine Z0d ?_; refine Z04 (ll := [0]) rfl ?_; refine Z09 rfl rfl rfl rfl ?_; refine Z02 ?_; refine Z01 ?_; refine Z0d ?_; refine Z0d ?_; refine Z04 (ll := [0, 1]) rfl ?_; refine Z06 rfl rfl rfl rfl ?_; refine Z0p rfl rfl rfl rfl rfl rfl ?_; refine Z02 ?_; refine Z01 ?_; rcases Z0i H with ⟨g1, H⟩ | ⟨g1, H⟩
 · refine Z15 rfl g1 ?_; refine Z0d ?_; refine Z04 (ll := [0]) rfl ?_; refine Z09 rfl rfl rfl rfl ?_; refine Z02 ?_; refine Z01 ?_; refine T.ret ?_; refine Z0h ?_; obtain rfl := ret1 H; exact Z12 rfl rfl rfl rfl (Res.tmp rfl) Z0a ⟨rfl, rfl⟩
 · refine Z16 rfl g1 ?_; refine T.skip ?_; refine Z01 ?_; refine Z0d ?_; obtain ⟨g2, H⟩ := Z0e H; obtain ⟨g3, H⟩ := Z0e H; obtain ⟨g4, H⟩ := Z0e H; refine Z04 (ll := [0, 1, 2, 3, 4, 5, 6, 7]) rfl ?_; refine Z06 rfl rfl rfl rfl ?_; refine Z06 rfl rfl rfl rfl ?_; refine TO.rem rfl rfl rfl rfl rfl g2 ?_; refine Z06 rfl rfl rfl rfl ?_; refine Z11 g3 rfl rfl rfl rfl rfl ?_; refine Z06 rfl rfl rfl rfl ?_; refine TO.rem rfl rfl rfl rfl rfl g4 ?_; refine Z09 rfl rfl rfl rfl ?_; refine Z02 ?_; refine Z01 ?_; refine Z0l (Z00 (t := 4) rfl Z0b) ?_; refine T.ret ?_; obtain rfl := ret1 H; exact Z12 rfl rfl rfl rfl (Res.tmp rfl) Z0a ⟨rfl, rfl⟩
theorem Zcg {n0 : Net} {verts1 : Int} {arcs2 : Int} {n0f3_b : Option Addr} {n0f3_n : Nat} {n0f3_c : Nat} (w : World) (h_n0f3 : RS w [] Z7o 3 n0f3_b n0f3_n n0f3_c n0.Arcs) {r0 : Net} (H : Z4b n0 verts1 arcs2 = some r0) : Fnc Try.prog 16 #[.agg #[.int .i64 n0.N, .int .i64 n0.S, .int .i64 n0.T, .slice n0f3_b n0f3_n n0f3_c], .int .i64 verts1, .int .i64 arcs2] w [] (fun v N => ∃ (ob_0 : Option Nat) (n_0 : Nat) (c_0 : Nat) (j_0 : List Value), v = .agg #[.int .i64 r0.N, .int .i64 r0.S, .int .i64 r0.T, .slice (sb ob_0) n_0 c_0] ∧ N = [(ob_0, .cells (arr Z7o r0.Arcs j_0).toArray 67 (0, 0))] ∧ r0.Arcs.length = n_0 ∧ n_0 ≤ c_0 ∧ j_0.length = (c_0 - n_0) * 3 ∧ (ob_0 = none → c_0 = 0)) := by
 unfold Z4b at H; refine Fnc.enter (vs := [.agg #[.int .i64 n0.N, .int .i64 n0.S, .int .i64 n0.T, .slice n0f3_b n0f3_n n0f3_c], .int .i64 verts1, .int .i64 arcs2]) Try.func16 rfl rfl (Inv.refl w) ?_; refine Z0d ?_; refine Z04 (ll := [0, 1]) rfl ?_; refine Z1v rfl rfl rfl rfl ?_; intro b1; refine Z0z rfl rfl rfl Zio ?_; intro b3; refine Z02 ?_; refine Z01 ?_; refine Z0d ?_; obtain ⟨g5, H⟩ := Z0e H; obtain ⟨r6, e7, H⟩ := Z0k H; obtain ⟨g8, H⟩ := Z0e H; refine Z04 (ll := [0, 1, 2, 3, 4, 5, 6, 7, 8]) rfl ?_; refine Z05 rfl rfl rfl rfl Z2t ?_; refine Z0c rfl rfl rfl rfl Z0w mm1 rfl ?_; refine Z06 rfl rfl rfl rfl ?_; refine Z73 g5 rfl rfl rfl rfl rfl ?_; refine Z0o Zav rfl rfl rfl rfl (fun wc hwc => Z3r (x0 := n0.N) (n1 := (verts1 - 1)) wc  e7) ?_; rintro _ _ ⟨rfl, rfl⟩; refine Z11 g8 rfl rfl rfl rfl rfl ?_; refine Z0y (t := 24) [.int .i64 0, .int .i64 0, .int .i64 0, .slice none 0 0] [0, 1, 2, 3] rfl rfl rfl rfl (by simp only [Z1n, setCells, Value.cells, List.toList_toArray, List.getD_cons_zero, List.getD_cons_succ, List.set_cons_zero, List.set_cons_succ]; rfl) (by kernel_rfl) ?_; refine Z0z rfl rfl rfl Zio ?_; intro b9; refine Z0t rfl rfl rfl rfl tk0 Zip rfl rfl rfl ?_; refine Z02 ?_; refine Z01 ?_; refine Z0l (Z00 (t := 2) rfl (Z00 (t := 3) rfl (Z00 (t := 6) rfl (Z00 (t := 7) rfl Z0b)))) ?_; refine Z0d ?_; obtain ⟨r11, e12, H⟩ := Z0k H; refine Z04 (ll := [0, 1, 2, 3, 4, 5, 6]) rfl ?_; refine Z05 rfl rfl rfl rfl Z4p ?_; refine Z0c rfl rfl rfl rfl Z0w mm2 rfl ?_; refine Z05 rfl rfl rfl rfl Z2t ?_; refine Z0c rfl rfl rfl rfl Z0w mm0 rfl ?_; refine Z0o Zav rfl rfl rfl rfl (fun wc hwc => Z3r (x0 := n0.S) (n1 := (2 + r6)) wc  e12) ?_; rintro _ _ ⟨rfl, rfl⟩; refine Z05 rfl rfl rfl rfl Z4p ?_; refine Z2g (cs' := [.int .i64 (2 + r6), .int .i64 r11, .int .i64 0, .slice none 0 0]) rfl rfl rfl rfl tk0 Z1p rfl rfl rfl ?_; refine Z02 ?_; refine Z01 ?_; refine Z0d ?_; obtain ⟨r13, e14, H⟩ := Z0k H; refine Z04 (ll := [0, 1, 2, 3, 4, 5, 6]) rfl ?_; refine Z05 rfl rfl rfl rfl Z5b ?_; refine Z0c rfl rfl rfl rfl Z0w mm2 rfl ?_; refine Z05 rfl rfl rfl rfl Z2t ?_; refine Z0c rfl rfl rfl rfl Z0w mm0 rfl ?_; refine Z0o Zav rfl rfl rfl rfl (fun wc hwc => Z3r (x0 := n0.T) (n1 := (2 + r6)) wc  e14) ?_; rintro _ _ ⟨rfl, rfl⟩; refine Z05 rfl rfl rfl rfl Z5b ?_; refine Z2g (cs' := [.int .i64 (2 + r6), .int .i64 r11, .int .i64 r13, .slice none 0 0]) rfl rfl rfl rfl tk0 Z1p rfl rfl rfl ?_; refine Z02 ?_; refine Z01 ?_; refine Z0l (Z00 (t := 2) rfl (Z00 (t := 3) rfl (Z00 (t := 6) rfl (Z00 (t := 7) rfl Z0b)))) ?_; refine Z0d ?_; refine Z0d ?_; refine Z04 (ll := [0, 1, 2, 3, 4]) rfl ?_; refine Z05 rfl rfl rfl rfl Z4p ?_; refine Z0c rfl rfl rfl rfl Z0w mm0 rfl ?_; refine Z05 rfl rfl rfl rfl Z5b ?_; refine Z0c rfl rfl rfl rfl Z0w mm0 rfl ?_; refine Z0p rfl rfl rfl rfl rfl rfl ?_; refine Z02 ?_; refine Z01 ?_; refine Z25 (fun (T18 : Int) => Z2v n0 arcs2 r6 r11 T18 = some r0) (fun (T18 : Int) => [(2, .int .i64 arcs2), (3, .pointer (some ⟨b1, 0, none⟩)), (6, .pointer (some ⟨b3, 0, none⟩)), (7, .pointer (some ⟨b9, 0, none⟩))]) (fun (T18 : Int) => [(some b1, .cells #[.int .i64 n0.N, .int .i64 n0.S, .int .i64 n0.T, .slice n0f3_b n0f3_n n0f3_c] 24 (0, 0)), (some b3, .cells #[.int .i64 0, .int .i64 0, .int .i64 0, .slice none 0 0] 24 (0, 0)), (some b9, .cells #[.int .i64 (2 + r6), .int .i64 r11, .int .i64 T18, .slice none 0 0] 24 (0, 0))]) ?_ ?_
 ·
  rcases Z0i H with ⟨g15, H⟩ | ⟨g15, H⟩
  · refine Z15 rfl g15 ?_; obtain ⟨g16, H⟩ := Z0e H; obtain ⟨g17, H⟩ := Z0e H; refine Z04 (ll := [0, 1, 2, 3, 4, 5, 6, 7]) rfl ?_; refine Z05 rfl rfl rfl rfl Z4p ?_; refine Z0c rfl rfl rfl rfl Z0w mm0 rfl ?_; refine Z11 g16 rfl rfl rfl rfl rfl ?_; refine Z05 rfl rfl rfl rfl Z2t ?_; refine Z0c rfl rfl rfl rfl Z0w mm0 rfl ?_; refine TO.rem rfl rfl rfl rfl rfl g17 ?_; refine Z05 rfl rfl rfl rfl Z5b ?_; refine Z2g (cs' := [.int .i64 (2 + r6), .int .i64 r11, .int .i64 ((r11 + 1).tmod (2 + r6)), .slice none 0 0]) rfl rfl rfl rfl tk0 Z1p rfl rfl rfl ?_; refine Z02 ?_; exact Z2b ((r11 + 1).tmod (2 + r6)) H (Z00 rfl (Z00 rfl (Z00 rfl (Z00 rfl Z0b)))) (Z03 tk2 (Z03 tk1 (Z03 tk0 Z0a)))
  · refine Z16 rfl g15 ?_; refine T.skip ?_; exact Z2b r13 H (Z00 rfl (Z00 rfl (Z00 rfl (Z00 rfl Z0b)))) (Z03 tk2 (Z03 tk1 (Z03 tk0 Z0a)))
 ·
  rintro T18 H; unfold Z2v at H; refine Z0d ?_; refine Z0d ?_; obtain ⟨g19, H⟩ := Z0e H; refine Z04 (ll := [0, 1, 2, 3, 4, 5, 6, 7, 8, 9]) rfl ?_; refine Z05 rfl rfl rfl rfl Z43 ?_; refine Z0c rfl rfl rfl rfl Z6s mm0 rfl ?_; refine Z05 rfl rfl rfl rfl Z43 ?_; refine Z0c rfl rfl rfl rfl Z6s mm0 rfl ?_; refine Z1f (xs := n0.Arcs) h_n0f3.len rfl rfl rfl rfl rfl Z37 ?_; refine Z06 rfl rfl rfl rfl ?_; refine TO.min2 rfl rfl rfl rfl rfl ?_; refine TO.slH (xs := n0.Arcs) h_n0f3.len h_n0f3.cap g19 rfl rfl rfl rfl rfl Z37 Z4g ?_; refine Z1f (xs := (n0.Arcs.take (min (n0.Arcs.length : Int) arcs2).toNat)) ((RS.take h_n0f3 g19).len) rfl rfl rfl rfl rfl Z37 ?_; refine Z06 rfl rfl rfl rfl ?_; refine Z02 ?_; refine Z01 ?_; refine Z0l (Z00 (t := 6) rfl (Z00 (t := 7) rfl (Z00 (t := 49) rfl (Z00 (t := 50) rfl (Z00 (t := 51) rfl Z0b))))) ?_; refine Ziy (fun (Arcs54 : List Arc) (n55 : Nat) (c56 : Nat) (ob57 : Option Nat) (j58 : List Value) => Z47 r6 r11 T18 Arcs54 = some r0 ∧ Arcs54.length = n55 ∧ n55 ≤ c56 ∧ j58.length = (c56 - n55) * 3 ∧ (ob57 = none → c56 = 0)) (fun (Arcs54 : List Arc) (n55 : Nat) (c56 : Nat) (ob57 : Option Nat) (j58 : List Value) => [(6, .pointer (some ⟨b3, 0, none⟩)), (7, .pointer (some ⟨b9, 0, none⟩))]) (fun (Arcs54 : List Arc) (n55 : Nat) (c56 : Nat) (ob57 : Option Nat) (j58 : List Value) => [(some b3, .cells #[.int .i64 0, .int .i64 0, .int .i64 0, .slice none 0 0] 24 (0, 0)), (some b9, .cells #[.int .i64 (2 + r6), .int .i64 r11, .int .i64 T18, .slice (sb ob57) n55 c56] 24 (0, 0)), (ob57, .cells (arr Z7o Arcs54 j58).toArray 67 (0, 0))]) ?_ ?_
  ·
   refine T.block ?_; obtain ⟨o_2, e_2, K_2⟩ := Z0k H; refine T.loopE7 (fun (m_2 : Nat) (Arcs20 : List Arc) (n21 : Nat) (c22 : Nat) (ob23 : Option Nat) (j24 : List Value) (x30 : Int) => Z2j (fun s => Z3c n0 arcs2 r6 s.1 s.2) m_2 (Arcs20, x30) = some o_2 ∧ Arcs20.length = n21 ∧ n21 ≤ c22 ∧ j24.length = (c22 - n21) * 3 ∧ (ob23 = none → c22 = 0)) (fun (m_2 : Nat) (Arcs20 : List Arc) (n21 : Nat) (c22 : Nat) (ob23 : Option Nat) (j24 : List Value) (x30 : Int) => [(6, .pointer (some ⟨b3, 0, none⟩)), (7, .pointer (some ⟨b9, 0, none⟩)), (49, .slice n0f3_b ((min (n0.Arcs.length : Int) arcs2).toNat) n0f3_c), (50, .int .i64 ((n0.Arcs.take (min (n0.Arcs.length : Int) arcs2).toNat).length : Int)), (51, .int .i64 x30)]) (fun (m_2 : Nat) (Arcs20 : List Arc) (n21 : Nat) (c22 : Nat) (ob23 : Option Nat) (j24 : List Value) (x30 : Int) => [(some b3, .cells #[.int .i64 0, .int .i64 0, .int .i64 0, .slice none 0 0] 24 (0, 0)), (some b9, .cells #[.int .i64 (2 + r6), .int .i64 r11, .int .i64 T18, .slice (sb ob23) n21 c22] 24 (0, 0)), (ob23, .cells (arr Z7o Arcs20 j24).toArray 67 (0, 0))]) (fun (m_2 : Nat) (Arcs20 : List Arc) (n21 : Nat) (c22 : Nat) (ob23 : Option Nat) (j24 : List Value) (x30 : Int) => m_2) Z4w ([]) 0 0 none ([]) 0 ⟨e_2, rfl, (Nat.le_refl _), (Z30 0 _), (fun _ => rfl)⟩ (Z00 rfl (Z00 rfl (Z00 rfl (Z00 rfl (Z00 rfl Z0b))))) (Z03 tk1 (Z03 tk1 (Pick.none Z0a))) ?_; rintro m_2 Arcs20 n21 c22 ob23 j24 x30 ⟨H, hn25, hc26, hj27, hz28⟩; obtain ⟨n_2, r_2, rfl, H, C_2⟩ := Z1o H; have H : Z3c n0 arcs2 r6 Arcs20 x30 = some r_2 := H; unfold Z3c at H; refine Z0d ?_; refine Z04 (ll := [0]) rfl ?_; refine Z0p rfl rfl rfl rfl rfl rfl ?_; refine Z02 ?_; refine Z01 ?_; refine Z0d ?_; rcases Z0i H with ⟨g31, H⟩ | ⟨g31, H⟩
   ·
    refine Z15 rfl g31 ?_; refine T.skip ?_; refine Z01 ?_; refine Z0d ?_; refine T.block ?_; refine Z0d ?_; obtain ⟨g32, H⟩ := Z0e H; refine Z04 (ll := [0, 1, 2, 3]) rfl ?_; refine Z2e (RS.take h_n0f3 g19) g32 rfl rfl rfl rfl rfl Z37 Z4g ?_; refine Zax (cs := [.int .i64 (((n0.Arcs.take (min (n0.Arcs.length : Int) arcs2).toNat).getD x30.toNat default).fr), .int .i64 (((n0.Arcs.take (min (n0.Arcs.length : Int) arcs2).toNat).getD x30.toNat default).to), .int .i64 (((n0.Arcs.take (min (n0.Arcs.length : Int) arcs2).toNat).getD x30.toNat default).cap)]) default (RS.take h_n0f3 g19) g32 rfl rfl rfl rfl rfl Z7n ?_; refine Z0z rfl rfl rfl Z9h ?_; intro b33; refine Z0t rfl rfl rfl rfl tk0 Z4g rfl rfl rfl ?_; refine Z02 ?_; refine Z01 ?_; refine Z0d ?_; refine Z04 (ll := [0, 1, 2]) rfl ?_; refine Z05 rfl rfl rfl rfl Z62 ?_; refine Z0c rfl rfl rfl rfl Za4 mm0 rfl ?_; refine Z09 rfl rfl rfl rfl ?_; refine Z02 ?_; refine Z01 ?_; refine Z0d ?_; refine Z0d ?_; refine Z04 (ll := [0, 1]) rfl ?_; refine Z06 rfl rfl rfl rfl ?_; refine Z0p rfl rfl rfl rfl rfl rfl ?_; refine Z02 ?_; refine Z01 ?_; refine Z25 (fun (c38 : Int) => Z2u n0 arcs2 r6 Arcs20 x30 c38 = some r_2) (fun (c38 : Int) => [(6, .pointer (some ⟨b3, 0, none⟩)), (7, .pointer (some ⟨b9, 0, none⟩)), (9, .pointer (some ⟨b33, 0, none⟩)), (10, .int .i64 c38), (49, .slice n0f3_b ((min (n0.Arcs.length : Int) arcs2).toNat) n0f3_c), (50, .int .i64 ((n0.Arcs.take (min (n0.Arcs.length : Int) arcs2).toNat).length : Int)), (51, .int .i64 x30)]) (fun (c38 : Int) => [(some b3, .cells #[.int .i64 0, .int .i64 0, .int .i64 0, .slice none 0 0] 24 (0, 0)), (some b9, .cells #[.int .i64 (2 + r6), .int .i64 r11, .int .i64 T18, .slice (sb ob23) n21 c22] 24 (0, 0)), (ob23, .cells (arr Z7o Arcs20 j24).toArray 67 (0, 0)), (some b33, .cells #[.int .i64 (((n0.Arcs.take (min (n0.Arcs.length : Int) arcs2).toNat).getD x30.toNat default).fr), .int .i64 (((n0.Arcs.take (min (n0.Arcs.length : Int) arcs2).toNat).getD x30.toNat default).to), .int .i64 (((n0.Arcs.take (min (n0.Arcs.length : Int) arcs2).toNat).getD x30.toNat default).cap)] 67 (0, 0))]) ?_ ?_
    ·
     rcases Z0i H with ⟨g35, H⟩ | ⟨g35, H⟩
     · refine Z15 rfl g35 ?_; obtain ⟨g36, H⟩ := Z0e H; obtain ⟨g37, H⟩ := Z0e H; refine Z04 (ll := [0, 1, 2, 3]) rfl ?_; refine Z06 rfl rfl rfl rfl ?_; refine Z11 g36 rfl rfl rfl rfl rfl ?_; refine TO.negG g37 rfl rfl rfl rfl ?_; refine Z09 rfl rfl rfl rfl ?_; refine Z02 ?_; exact Z2b (-((((n0.Arcs.take (min (n0.Arcs.length : Int) arcs2).toNat).getD x30.toNat default).cap) + 1)) H (Z00 rfl (Z00 rfl (Z00 rfl (Z00 rfl (Z00 rfl (Z00 rfl (Z00 rfl Z0b))))))) (Z03 tk1 (Z03 tk1 (Z03 tk1 (Z03 tk0 Z0a))))
     · refine Z16 rfl g35 ?_; refine T.skip ?_; exact Z2b (((n0.Arcs.take (min (n0.Arcs.length : Int) arcs2).toNat).getD x30.toNat default).cap) H (Z00 rfl (Z00 rfl (Z00 rfl (Z00 rfl (Z00 rfl (Z00 rfl (Z00 rfl Z0b))))))) (Z03 tk1 (Z03 tk1 (Z03 tk1 (Z03 tk0 Z0a))))
    ·
     rintro c38 H; unfold Z2u at H; obtain ⟨r39, e40, H⟩ := Z0k H; obtain ⟨r41, e42, H⟩ := Z0k H; obtain ⟨g45, H⟩ := Z0e H; apply Z8m [⟨[], false, [], Z3j _⟩, ⟨[0], false, [], Z3j _⟩, ⟨[], false, [], Z3j _⟩, ⟨[2], false, [], Z3j _⟩, ⟨[], false, [], Z3j _⟩, ⟨[4], false, [], Z3j _⟩, ⟨[3, 5], false, [], Z3j _⟩, ⟨[], false, [], Z3j _⟩, ⟨[7], false, [], Z3j _⟩, ⟨[], false, [], Z3j _⟩, ⟨[9], false, [], Z3j _⟩, ⟨[8, 10], false, [], Z3j _⟩, ⟨[], false, [], Z3j _⟩, ⟨[12], false, [], Z3j _⟩, ⟨[6, 11, 13], false, [], Z3j _⟩, ⟨[14], false, [], fun _ v e => ∃ (b43 : Nat), v = .slice (some ⟨b43, 0, none⟩) 1 1 ∧ e = [(some b43, .cells (arr Z7o ([(Arc.mk r39 r41 (c38.tmod 1125899906842624))]) ([])).toArray 67 (0, 0))]⟩] [62, 63, 64, 65, 66, 67, 68, 69, 70, 71, 72, 73, 74, 75, 76, 77] 16 (HRk [[]]) [[]] [] [(some b3, .cells #[.int .i64 0, .int .i64 0, .int .i64 0, .slice none 0 0] 24 (0, 0)), (some b9, .cells #[.int .i64 (2 + r6), .int .i64 r11, .int .i64 T18, .slice (sb ob23) n21 c22] 24 (0, 0)), (ob23, .cells (arr Z7o Arcs20 j24).toArray 67 (0, 0)), (some b33, .cells #[.int .i64 (((n0.Arcs.take (min (n0.Arcs.length : Int) arcs2).toNat).getD x30.toNat default).fr), .int .i64 (((n0.Arcs.take (min (n0.Arcs.length : Int) arcs2).toNat).getD x30.toNat default).to), .int .i64 (((n0.Arcs.take (min (n0.Arcs.length : Int) arcs2).toNat).getD x30.toNat default).cap)] 67 (0, 0))]
     · exact Z6a
     · exact rfl
     · kernel_rfl
     · kernel_rfl
     · kernel_rfl
     · exact rfl
     · exact rfl
     · exact rfl
     · exact rfl
     · exact (by repeat (first | exact Z07 _ | exact Z0a | apply Pick.none | refine Z03 (by repeat (first | exact Take.head _ _ | apply Take.tail)) ?_))
     ·
      refine ⟨?_, ?_, ?_, ?_, ?_, ?_, ?_, ?_, ?_, ?_, ?_, ?_, ?_, ?_, ?_, ?_, trivial⟩
      · rintro vs es Es Hx -; refine Z0g (D := []) rfl ?_; refine Z05 rfl rfl rfl rfl Z43 ?_; refine Z02 ?_; exact Z0x rfl ⟨rfl, rfl⟩ (Z07 _) rfl
      · rintro vs es Es Hx ⟨⟨h_0, e_0⟩, -⟩; refine Z0g (D := [(62, vs 0)]) rfl ?_; rw [h_0]; refine Z0c rfl rfl rfl rfl Z6s mm1 rfl ?_; refine Z02 ?_; exact Z0x rfl ⟨rfl, rfl⟩ (Z07 _) (by show [(62, vs 0)] = _; rw [h_0])
      · rintro vs es Es Hx -; refine Z0g (D := []) rfl ?_; refine Z05 rfl rfl rfl rfl Z5a ?_; refine Z02 ?_; exact Z0x rfl ⟨rfl, rfl⟩ (Z07 _) rfl
      · rintro vs es Es Hx ⟨⟨h_2, e_2⟩, -⟩; refine Z0g (D := [(64, vs 2)]) rfl ?_; rw [h_2]; refine Z0c rfl rfl rfl rfl Z0w mm3 rfl ?_; refine Z02 ?_; exact Z0x rfl ⟨rfl, rfl⟩ (Z07 _) (by show [(64, vs 2)] = _; rw [h_2])
      · rintro vs es Es Hx -; refine Z0g (D := []) rfl ?_; refine Z05 rfl rfl rfl rfl Z2t ?_; refine Z02 ?_; exact Z0x rfl ⟨rfl, rfl⟩ (Z07 _) rfl
      · rintro vs es Es Hx ⟨⟨h_4, e_4⟩, -⟩; refine Z0g (D := [(66, vs 4)]) rfl ?_; rw [h_4]; refine Z0c rfl rfl rfl rfl Z0w mm1 rfl ?_; refine Z02 ?_; exact Z0x rfl ⟨rfl, rfl⟩ (Z07 _) (by show [(66, vs 4)] = _; rw [h_4])
      · rintro vs es Es Hx ⟨⟨h_3, e_3⟩, ⟨h_5, e_5⟩, -⟩; refine Z0g (D := [(65, vs 3), (67, vs 5)]) rfl ?_; rw [h_3, h_5]; refine Z0o Zav rfl rfl rfl rfl (fun wc hwc => Z3r (x0 := ((n0.Arcs.take (min (n0.Arcs.length : Int) arcs2).toNat).getD x30.toNat default).fr) (n1 := (2 + r6)) wc  e40) ?_; rintro _ _ ⟨rfl, rfl⟩; refine Z02 ?_; exact Z0x rfl ⟨rfl, rfl⟩ (Z07 _) (by show [(65, vs 3), (67, vs 5)] = _; rw [h_3, h_5])
      · rintro vs es Es Hx -; refine Z0g (D := []) rfl ?_; refine Z05 rfl rfl rfl rfl Z63 ?_; refine Z02 ?_; exact Z0x rfl ⟨rfl, rfl⟩ (Z07 _) rfl
      · rintro vs es Es Hx ⟨⟨h_7, e_7⟩, -⟩; refine Z0g (D := [(69, vs 7)]) rfl ?_; rw [h_7]; refine Z0c rfl rfl rfl rfl Z0w mm3 rfl ?_; refine Z02 ?_; exact Z0x rfl ⟨rfl, rfl⟩ (Z07 _) (by show [(69, vs 7)] = _; rw [h_7])
      · rintro vs es Es Hx -; refine Z0g (D := []) rfl ?_; refine Z05 rfl rfl rfl rfl Z2t ?_; refine Z02 ?_; exact Z0x rfl ⟨rfl, rfl⟩ (Z07 _) rfl
      · rintro vs es Es Hx ⟨⟨h_9, e_9⟩, -⟩; refine Z0g (D := [(71, vs 9)]) rfl ?_; rw [h_9]; refine Z0c rfl rfl rfl rfl Z0w mm1 rfl ?_; refine Z02 ?_; exact Z0x rfl ⟨rfl, rfl⟩ (Z07 _) (by show [(71, vs 9)] = _; rw [h_9])
      · rintro vs es Es Hx ⟨⟨h_8, e_8⟩, ⟨h_10, e_10⟩, -⟩; refine Z0g (D := [(70, vs 8), (72, vs 10)]) rfl ?_; rw [h_8, h_10]; refine Z0o Zav rfl rfl rfl rfl (fun wc hwc => Z3r (x0 := ((n0.Arcs.take (min (n0.Arcs.length : Int) arcs2).toNat).getD x30.toNat default).to) (n1 := (2 + r6)) wc  e42) ?_; rintro _ _ ⟨rfl, rfl⟩; refine Z02 ?_; exact Z0x rfl ⟨rfl, rfl⟩ (Z07 _) (by show [(70, vs 8), (72, vs 10)] = _; rw [h_8, h_10])
      · rintro vs es Es Hx -; refine Z0g (D := []) rfl ?_; refine Z06 rfl rfl rfl rfl ?_; refine Z02 ?_; exact Z0x rfl ⟨rfl, rfl⟩ (Z07 _) rfl
      · rintro vs es Es Hx ⟨⟨h_12, e_12⟩, -⟩; refine Z0g (D := [(74, vs 12)]) rfl ?_; rw [h_12]; refine TO.rem rfl rfl rfl rfl rfl (by decide) ?_; refine Z02 ?_; exact Z0x rfl ⟨rfl, rfl⟩ (Z07 _) (by show [(74, vs 12)] = _; rw [h_12])
      · rintro vs es Es Hx ⟨⟨h_6, e_6⟩, ⟨h_11, e_11⟩, ⟨h_13, e_13⟩, -⟩; refine Z0g (D := [(68, vs 6), (73, vs 11), (75, vs 13)]) rfl ?_; rw [h_6, h_11, h_13]; refine Z0y (t := 67) [.int .i64 0, .int .i64 0, .int .i64 0] [0, 1, 2] rfl rfl rfl rfl (by simp only [Z1n, setCells, Value.cells, List.toList_toArray, List.getD_cons_zero, List.getD_cons_succ, List.set_cons_zero, List.set_cons_succ]; rfl) (by kernel_rfl) ?_; refine Z02 ?_; exact Z0x rfl ⟨rfl, rfl⟩ (Z07 _) (by show [(68, vs 6), (73, vs 11), (75, vs 13)] = _; rw [h_6, h_11, h_13])
      · rintro vs es Es Hx ⟨⟨h_14, e_14⟩, -⟩; refine Z0g (D := [(76, vs 14)]) rfl ?_; rw [h_14]; refine Z28 [.int .i64 0, .int .i64 0, .int .i64 0] [0] rfl rfl rfl rfl Z37 Z4g Z9h rfl rfl (by simp only [Z1n, setCells, Value.cells, List.toList_toArray, List.getD_cons_zero, List.getD_cons_succ, List.set_cons_zero, List.set_cons_succ]; rfl) (by kernel_rfl) ?_; intro b43; refine Z02 ?_; exact Z0x rfl ⟨b43, rfl, rfl⟩ (by repeat (first | exact Z07 _ | exact Z0a | apply Pick.none | refine Z03 (by repeat (first | exact Take.head _ _ | apply Take.tail)) ?_)) (by show [(76, vs 14)] = _; rw [h_14])
     · rintro vs es hb ⟨⟨h_0, e_0⟩, ⟨h_1, e_1⟩, ⟨h_2, e_2⟩, ⟨h_3, e_3⟩, ⟨h_4, e_4⟩, ⟨h_5, e_5⟩, ⟨h_6, e_6⟩, ⟨h_7, e_7⟩, ⟨h_8, e_8⟩, ⟨h_9, e_9⟩, ⟨h_10, e_10⟩, ⟨h_11, e_11⟩, ⟨h_12, e_12⟩, ⟨h_13, e_13⟩, ⟨h_14, e_14⟩, ⟨b43, h_15, e_15⟩, -⟩ hHR; obtain rfl : hb = [] := hHR; refine Z0g (D := [(62, vs 0), (63, vs 1), (64, vs 2), (65, vs 3), (66, vs 4), (67, vs 5), (68, vs 6), (69, vs 7), (70, vs 8), (71, vs 9), (72, vs 10), (73, vs 11), (74, vs 12), (75, vs 13), (76, vs 14), (77, vs 15)]) rfl ?_; refine Z1s (H := [(some b3, .cells #[.int .i64 0, .int .i64 0, .int .i64 0, .slice none 0 0] 24 (0, 0)), (some b9, .cells #[.int .i64 (2 + r6), .int .i64 r11, .int .i64 T18, .slice (sb ob23) n21 c22] 24 (0, 0)), (ob23, .cells (arr Z7o Arcs20 j24).toArray 67 (0, 0)), (some b33, .cells #[.int .i64 (((n0.Arcs.take (min (n0.Arcs.length : Int) arcs2).toNat).getD x30.toNat default).fr), .int .i64 (((n0.Arcs.take (min (n0.Arcs.length : Int) arcs2).toNat).getD x30.toNat default).to), .int .i64 (((n0.Arcs.take (min (n0.Arcs.length : Int) arcs2).toNat).getD x30.toNat default).cap)] 67 (0, 0)), (some b43, .cells (arr Z7o ([(Arc.mk r39 r41 (c38.tmod 1125899906842624))]) ([])).toArray 67 (0, 0))]) (by show _ ++ (_ ++ (es 0 ++ (es 1 ++ (es 2 ++ (es 3 ++ (es 4 ++ (es 5 ++ (es 6 ++ (es 7 ++ (es 8 ++ (es 9 ++ (es 10 ++ (es 11 ++ (es 12 ++ (es 13 ++ (es 14 ++ (es 15 ++ ([])))))))))))))))))) = _; rw [e_0, e_1, e_2, e_3, e_4, e_5, e_6, e_7, e_8, e_9, e_10, e_11, e_12, e_13, e_14, e_15]; rfl) ?_; rw [h_0, h_1, h_2, h_3, h_4, h_5, h_6, h_7, h_8, h_9, h_10, h_11, h_12, h_13, h_14, h_15]; clear h_15 h_14 h_13 h_12 h_11 h_10 h_9 h_8 h_7 h_6 h_5 h_4 h_3 h_2 h_1 h_0 e_0 e_1 e_2 e_3 e_4 e_5 e_6 e_7 e_8 e_9 e_10 e_11 e_12 e_13 e_14 e_15; refine Zix (f := Z7o) (s := 3) (xs := Arcs20) (ob := ob23) (j := j24) (ys := [(Arc.mk r39 r41 (c38.tmod 1125899906842624))]) (fun _ => rfl) (fun _ => rfl) Znx g45 rfl rfl rfl rfl rfl tk2 hn25 hc26 hj27 hz28 (fun wc hwc => (hwc.rs (f := Z7o) (s := 3) (xs := [(Arc.mk r39 r41 (c38.tmod 1125899906842624))]) (j := ([])) (fun _ => rfl) mm4 rfl (Nat.le_refl _) Z49)) ?_; intro ob46 c47 j48 hc49 hj50 hz51; refine Z05 rfl rfl rfl rfl Z43 ?_; refine Z2g (cs' := [.int .i64 (2 + r6), .int .i64 r11, .int .i64 T18, .slice (sb ob46) (n21 + 1) c47]) rfl rfl rfl rfl tk2 Zo9 rfl rfl rfl ?_; refine Z02 ?_; refine Z0j ?_; refine Z01 ?_; refine Z0l (Z00 (t := 6) rfl (Z00 (t := 7) rfl (Z00 (t := 49) rfl (Z00 (t := 50) rfl (Z00 (t := 51) rfl Z0b))))) ?_; obtain ⟨g53, H⟩ := Z0e H; refine Z04 (ll := [0, 1]) rfl ?_; refine Z11 g53 rfl rfl rfl rfl rfl ?_; refine Z06 rfl rfl rfl rfl ?_; refine Z02 ?_; have H := Z1c H C_2; exact Zn4 n_2 (Arcs20 ++ ([(Arc.mk r39 r41 (c38.tmod 1125899906842624))])) (n21 + 1) c47 ob46 j48 (x30 + 1) ⟨H, (Zeb hn25 rfl), hc49, hj50, hz51⟩ (Nat.lt_succ_self _) (Z00 rfl (Z00 rfl (Z00 rfl (Z00 rfl (Z00 rfl Z0b))))) (Z03 tk2 (Z03 tk0 (Z03 tk0 Z0a)))
   · refine Z16 rfl g31 ?_; refine T.exit ?_; refine Z0m ?_; have H := Z0v H C_2 ▸ K_2; refine Z0m ?_; refine Z13 ?_; exact Zn3 Arcs20 n21 c22 ob23 j24 ⟨H, hn25, hc26, hj27, hz28⟩ (Z00 rfl (Z00 rfl Z0b)) (Z03 tk0 (Z03 tk0 (Z03 tk0 Z0a)))
  · rintro Arcs54 n55 c56 ob57 j58 ⟨H, hn59, hc60, hj61, hz62⟩; unfold Z47 at H; refine Z0d ?_; refine Z04 (ll := [0, 1]) rfl ?_; refine Z0u rfl rfl rfl rfl Z2c mm1 rfl ?_; refine Z0t rfl rfl rfl rfl tk0 Zip rfl rfl rfl ?_; refine Z02 ?_; refine Z01 ?_; refine T.ret ?_; obtain rfl := ret1 H; exact Z12 rfl rfl rfl rfl (Z29 rfl Z2c mm0 rfl) (Z03 tk2 Z0a) ⟨ob57, n55, c56, j58, rfl, rfl, hn59, hc60, hj61, hz62⟩
theorem Zdk (w : World) (H : Z5u = some ()) : Fnc Try.prog 115 #[.func (.func 116) #[] #[]] w [] (fun v N => ∃ (b_0 : Nat), v = .func (.func 121) #[] #[.pointer (some ⟨b_0, 0, none⟩)] ∧ N = [(some b_0, .cells #[.func (.func 116) #[] #[]] 148 (0, 0))]) := by
 unfold Z5u at H; refine Fnc.enter (vs := [.func (.func 116) #[] #[]]) Try.func115 rfl rfl (Inv.refl w) ?_; refine Z0d ?_; refine Z04 (ll := [0, 1]) rfl ?_; refine TO.box rfl rfl rfl rfl ?_; intro b1; refine Z09 rfl rfl rfl rfl ?_; refine Z02 ?_; refine Z01 ?_; refine Z0d ?_; refine Z04 (ll := [0, 1]) rfl ?_; refine TO.makeFunc rfl rfl rfl rfl rfl ?_; refine Z09 rfl rfl rfl rfl ?_; refine Z02 ?_; refine Z01 ?_; refine T.ret ?_; exact Z12 rfl rfl rfl rfl (Res.tmp rfl) (Z03 tk0 Z0a) ⟨b1, rfl, rfl⟩
theorem Zdj (w : World) (H : Z5t = some ()) : Fnc Try.prog 115 #[.func (.func 117) #[] #[]] w [] (fun v N => ∃ (b_0 : Nat), v = .func (.func 121) #[] #[.pointer (some ⟨b_0, 0, none⟩)] ∧ N = [(some b_0, .cells #[.func (.func 117) #[] #[]] 148 (0, 0))]) := by
 unfold Z5t at H; refine Fnc.enter (vs := [.func (.func 117) #[] #[]]) Try.func115 rfl rfl (Inv.refl w) ?_; refine Z0d ?_; refine Z04 (ll := [0, 1]) rfl ?_; refine TO.box rfl rfl rfl rfl ?_; intro b1; refine Z09 rfl rfl rfl rfl ?_; refine Z02 ?_; refine Z01 ?_; refine Z0d ?_; refine Z04 (ll := [0, 1]) rfl ?_; refine TO.makeFunc rfl rfl rfl rfl rfl ?_; refine Z09 rfl rfl rfl rfl ?_; refine Z02 ?_; refine Z01 ?_; refine T.ret ?_; exact Z12 rfl rfl rfl rfl (Res.tmp rfl) (Z03 tk0 Z0a) ⟨b1, rfl, rfl⟩
theorem Zj2 (w : World) (H : Z9u = some ()) : Fnc Try.prog 102 #[] w [] (fun v N => ∃ (b_0 : Nat) (b_1 : Nat), v = .agg #[.func (.func 111) #[] #[], .int .i64 10, .func (.func 112) #[] #[], .int .i64 11, .func (.func 113) #[] #[], .int .i64 12, .func (.func 121) #[] #[.pointer (some ⟨b_0, 0, none⟩)], .int .i64 13, .func (.func 121) #[] #[.pointer (some ⟨b_1, 0, none⟩)], .int .i64 14, .func (.func 118) #[] #[], .int .i64 15] ∧ N = [(some b_0, .cells #[.func (.func 116) #[] #[]] 148 (0, 0)), (some b_1, .cells #[.func (.func 117) #[] #[]] 148 (0, 0))]) := by
 unfold Z9u at H; refine Fnc.enter (vs := []) Try.func102 rfl rfl (Inv.refl w) ?_; refine Z0d ?_; refine Z04 (ll := [0]) rfl ?_; refine Z0z rfl rfl rfl Zlt ?_; intro b1; refine Z02 ?_; refine Z01 ?_; refine Z0d ?_; obtain ⟨⟨⟩, e3, H⟩ := Z0k H; obtain ⟨⟨⟩, e6, H⟩ := Z0k H; refine Z04 (ll := [0, 1, 2, 3, 4, 5, 6, 7, 8, 9]) rfl ?_; refine Z0y (t := 136) [.nilFunc, .int .i64 0] [0, 1] rfl rfl rfl rfl (by simp only [Z1n, setCells, Value.cells, List.toList_toArray, List.getD_cons_zero, List.getD_cons_succ, List.set_cons_zero, List.set_cons_succ]; rfl) (by kernel_rfl) ?_; refine Z0y (t := 136) [.nilFunc, .int .i64 0] [0, 1] rfl rfl rfl rfl (by simp only [Z1n, setCells, Value.cells, List.toList_toArray, List.getD_cons_zero, List.getD_cons_succ, List.set_cons_zero, List.set_cons_succ]; rfl) (by kernel_rfl) ?_; refine Z0y (t := 136) [.nilFunc, .int .i64 0] [0, 1] rfl rfl rfl rfl (by simp only [Z1n, setCells, Value.cells, List.toList_toArray, List.getD_cons_zero, List.getD_cons_succ, List.set_cons_zero, List.set_cons_succ]; rfl) (by kernel_rfl) ?_; refine Z0o Zgd rfl rfl rfl rfl (fun wc hwc => Zdk  wc  e3) ?_; rintro _ _ ⟨b4, rfl, rfl⟩; refine Z0y (t := 136) [.nilFunc, .int .i64 0] [0, 1] rfl rfl rfl rfl (by simp only [Z1n, setCells, Value.cells, List.toList_toArray, List.getD_cons_zero, List.getD_cons_succ, List.set_cons_zero, List.set_cons_succ]; rfl) (by kernel_rfl) ?_; refine Z0o Zgd rfl rfl rfl rfl (fun wc hwc => Zdj  wc  e6) ?_; rintro _ _ ⟨b7, rfl, rfl⟩; refine Z0y (t := 136) [.nilFunc, .int .i64 0] [0, 1] rfl rfl rfl rfl (by simp only [Z1n, setCells, Value.cells, List.toList_toArray, List.getD_cons_zero, List.getD_cons_succ, List.set_cons_zero, List.set_cons_succ]; rfl) (by kernel_rfl) ?_; refine Z0y (t := 136) [.nilFunc, .int .i64 0] [0, 1] rfl rfl rfl rfl (by simp only [Z1n, setCells, Value.cells, List.toList_toArray, List.getD_cons_zero, List.getD_cons_succ, List.set_cons_zero, List.set_cons_succ]; rfl) (by kernel_rfl) ?_; refine Z0y (t := 137) [.nilFunc, .int .i64 0, .nilFunc, .int .i64 0, .nilFunc, .int .i64 0, .nilFunc, .int .i64 0, .nilFunc, .int .i64 0, .nilFunc, .int .i64 0] [0, 2, 4, 6, 8, 10] rfl rfl rfl rfl (by simp only [Z1n, setCells, Value.cells, List.toList_toArray, List.getD_cons_zero, List.getD_cons_succ, List.set_cons_zero, List.set_cons_succ]; rfl) (by kernel_rfl) ?_; refine Z0t rfl rfl rfl rfl tk2 Zlu rfl rfl rfl ?_; refine Z02 ?_; refine Z01 ?_; refine Z0l (Z00 (t := 0) rfl Z0b) ?_; refine T.ret ?_; exact Z12 rfl rfl rfl rfl (Z29 rfl Zm3 mm0 rfl) (Z03 tk2 (Z03 tk1 Z0a)) ⟨b4, b7, rfl, rfl⟩
theorem Zgo {n0 : Net} {n0f3_b : Option Addr} {n0f3_n : Nat} {n0f3_c : Nat} (w : World) (h_n0f3 : RS w [] Z7o 3 n0f3_b n0f3_n n0f3_c n0.Arcs) {r0 : Bool} (H : Z7w n0 = some r0) : Fnc Try.prog 111 #[.agg #[.int .i64 n0.N, .int .i64 n0.S, .int .i64 n0.T, .slice n0f3_b n0f3_n n0f3_c]] w [] (fun v N => v = .bool r0 ∧ N = []) := by
 unfold Z7w at H; refine Fnc.enter (vs := [.agg #[.int .i64 n0.N, .int .i64 n0.S, .int .i64 n0.T, .slice n0f3_b n0f3_n n0f3_c]]) Try.func111 rfl rfl (Inv.refl w) ?_; refine Z0d ?_; refine Z04 (ll := [0, 1]) rfl ?_; refine Z1v rfl rfl rfl rfl ?_; intro b1; refine Z09 rfl rfl rfl rfl ?_; refine Z02 ?_; refine Z01 ?_; refine Z0d ?_; rcases Z0i H with ⟨g3, H⟩ | ⟨g3, H⟩
 · refine Z04 (ll := [0, 1, 2, 3, 4, 5, 6, 7, 8]) rfl ?_; refine Z05 rfl rfl rfl rfl Z2t ?_; refine Z0c rfl rfl rfl rfl Z0w mm0 rfl ?_; refine Z0p rfl rfl rfl rfl rfl rfl ?_; refine Z06 rfl rfl rfl rfl ?_; refine Z0r (t := 6) (b' := true) rfl (decide_eq_true g3) ?_; refine Z05 rfl rfl rfl rfl Z2t ?_; refine Z0c rfl rfl rfl rfl Z0w mm0 rfl ?_; refine Z0p rfl rfl rfl rfl rfl rfl ?_; refine Z1a rfl rfl rfl rfl rfl ?_; refine Z09 rfl rfl rfl rfl ?_; refine Z02 ?_; refine Z01 ?_; refine Z0l (Z00 (t := 2) rfl Z0b) ?_; refine T.ret ?_; obtain rfl := ret1 H; exact Z12 rfl rfl rfl rfl (Res.tmp rfl) Z0a ⟨rfl, rfl⟩
 · refine Z04 (ll := [0, 1, 2, 3, 4, 5, 6, 7, 8]) rfl ?_; refine Z05 rfl rfl rfl rfl Z2t ?_; refine Z0c rfl rfl rfl rfl Z0w mm0 rfl ?_; refine Z0p rfl rfl rfl rfl rfl rfl ?_; refine Z06 rfl rfl rfl rfl ?_; refine Z0r (t := 6) (b' := false) rfl (decide_eq_false g3) ?_; refine Z0f rfl rfl rfl rfl ?_; refine Z0f rfl rfl rfl rfl ?_; refine Z0f rfl rfl rfl rfl ?_; refine Z14 rfl rfl rfl rfl rfl ?_; refine Z09 rfl rfl rfl rfl ?_; refine Z02 ?_; refine Z01 ?_; refine Z0l (Z00 (t := 2) rfl Z0b) ?_; refine T.ret ?_; obtain rfl := ret1 H; exact Z12 rfl rfl rfl rfl (Res.tmp rfl) Z0a ⟨rfl, rfl⟩
theorem Zgn {n0 : Net} {n0f3_b : Option Addr} {n0f3_n : Nat} {n0f3_c : Nat} (w : World) (h_n0f3 : RS w [] Z7o 3 n0f3_b n0f3_n n0f3_c n0.Arcs) {r0 : Bool} (H : Z7v n0 = some r0) : Fnc Try.prog 112 #[.agg #[.int .i64 n0.N, .int .i64 n0.S, .int .i64 n0.T, .slice n0f3_b n0f3_n n0f3_c]] w [] (fun v N => v = .bool r0 ∧ N = []) := by
 unfold Z7v at H; refine Fnc.enter (vs := [.agg #[.int .i64 n0.N, .int .i64 n0.S, .int .i64 n0.T, .slice n0f3_b n0f3_n n0f3_c]]) Try.func112 rfl rfl (Inv.refl w) ?_; refine Z0d ?_; refine Z04 (ll := [0, 1]) rfl ?_; refine Z1v rfl rfl rfl rfl ?_; intro b1; refine Z09 rfl rfl rfl rfl ?_; refine Z02 ?_; refine Z01 ?_; refine Z0d ?_; refine Z04 (ll := [0, 1, 2, 3, 4]) rfl ?_; refine Z05 rfl rfl rfl rfl Z43 ?_; refine Z0c rfl rfl rfl rfl Z6s mm0 rfl ?_; refine Z1f (xs := n0.Arcs) h_n0f3.len rfl rfl rfl rfl rfl Z37 ?_; refine Z0p rfl rfl rfl rfl rfl rfl ?_; refine Z09 rfl rfl rfl rfl ?_; refine Z02 ?_; refine Z01 ?_; refine T.ret ?_; obtain rfl := ret1 H; exact Z12 rfl rfl rfl rfl (Res.tmp rfl) Z0a ⟨rfl, rfl⟩
theorem Z4i {n0 : Net} {v1 : Int} {n0f3_b : Option Addr} {n0f3_n : Nat} {n0f3_c : Nat} (w : World) (h_n0f3 : RS w [] Z7o 3 n0f3_b n0f3_n n0f3_c n0.Arcs) {r0 : Bool} (H : Z4j n0 v1 = some r0) : Fnc Try.prog 114 #[.agg #[.int .i64 n0.N, .int .i64 n0.S, .int .i64 n0.T, .slice n0f3_b n0f3_n n0f3_c], .int .i64 v1] w [] (fun v N => v = .bool r0 ∧ N = []) := by
 unfold Z4j at H; refine Fnc.enter (vs := [.agg #[.int .i64 n0.N, .int .i64 n0.S, .int .i64 n0.T, .slice n0f3_b n0f3_n n0f3_c], .int .i64 v1]) Try.func114 rfl rfl (Inv.refl w) ?_; refine Z0d ?_; refine Z04 (ll := [0, 1]) rfl ?_; refine Z1v rfl rfl rfl rfl ?_; intro b1; refine Z09 rfl rfl rfl rfl ?_; refine Z02 ?_; refine Z01 ?_; refine Z0d ?_; rcases Z0i H with ⟨g3, H⟩ | ⟨g3, H⟩
 · refine Z04 (ll := [0, 1, 2, 3, 4, 5, 6, 7, 8]) rfl ?_; refine Z06 rfl rfl rfl rfl ?_; refine Z0p rfl rfl rfl rfl rfl rfl ?_; refine Z06 rfl rfl rfl rfl ?_; refine Z0r (t := 7) (b' := true) rfl (decide_eq_true g3) ?_; refine Z06 rfl rfl rfl rfl ?_; refine Z05 rfl rfl rfl rfl Z2t ?_; refine Z0c rfl rfl rfl rfl Z0w mm0 rfl ?_; refine Z0p rfl rfl rfl rfl rfl rfl ?_; refine Z1a rfl rfl rfl rfl rfl ?_; refine Z09 rfl rfl rfl rfl ?_; refine Z02 ?_; refine Z01 ?_; refine Z0l (Z00 (t := 4) rfl Z0b) ?_; refine T.ret ?_; obtain rfl := ret1 H; exact Z12 rfl rfl rfl rfl (Res.tmp rfl) Z0a ⟨rfl, rfl⟩
 · refine Z04 (ll := [0, 1, 2, 3, 4, 5, 6, 7, 8]) rfl ?_; refine Z06 rfl rfl rfl rfl ?_; refine Z0p rfl rfl rfl rfl rfl rfl ?_; refine Z06 rfl rfl rfl rfl ?_; refine Z0r (t := 7) (b' := false) rfl (decide_eq_false g3) ?_; refine Z0f rfl rfl rfl rfl ?_; refine Z0f rfl rfl rfl rfl ?_; refine Z0f rfl rfl rfl rfl ?_; refine Z0f rfl rfl rfl rfl ?_; refine Z14 rfl rfl rfl rfl rfl ?_; refine Z09 rfl rfl rfl rfl ?_; refine Z02 ?_; refine Z01 ?_; refine Z0l (Z00 (t := 4) rfl Z0b) ?_; refine T.ret ?_; obtain rfl := ret1 H; exact Z12 rfl rfl rfl rfl (Res.tmp rfl) Z0a ⟨rfl, rfl⟩
theorem Zgm {n0 : Net} {n0f3_b : Option Addr} {n0f3_n : Nat} {n0f3_c : Nat} (w : World) (h_n0f3 : RS w [] Z7o 3 n0f3_b n0f3_n n0f3_c n0.Arcs) {r0 : Bool} (H : Z7u n0 = some r0) : Fnc Try.prog 113 #[.agg #[.int .i64 n0.N, .int .i64 n0.S, .int .i64 n0.T, .slice n0f3_b n0f3_n n0f3_c]] w [] (fun v N => v = .bool r0 ∧ N = []) := by
 unfold Z7u at H; refine Fnc.enter (vs := [.agg #[.int .i64 n0.N, .int .i64 n0.S, .int .i64 n0.T, .slice n0f3_b n0f3_n n0f3_c]]) Try.func113 rfl rfl (Inv.refl w) ?_; refine Z0d ?_; refine Z04 (ll := [0, 1]) rfl ?_; refine Z1v rfl rfl rfl rfl ?_; intro b1; refine Z09 rfl rfl rfl rfl ?_; refine Z02 ?_; refine Z01 ?_; refine Z0d ?_; obtain ⟨r3, e4, H⟩ := Z0k H; rcases Z0i H with ⟨g5, H⟩ | ⟨g5, H⟩
 ·
  obtain ⟨r6, e7, H⟩ := Z0k H; rcases Z0i H with ⟨g8, H⟩ | ⟨g8, H⟩
  · refine Z04 (ll := [0, 1, 2, 3, 4, 5, 6, 7, 8, 9, 10, 11, 12, 13, 14, 15, 16, 17]) rfl ?_; refine Z0u rfl rfl rfl rfl Z2c mm0 rfl ?_; refine Z05 rfl rfl rfl rfl Z4p ?_; refine Z0c rfl rfl rfl rfl Z0w mm0 rfl ?_; refine Z0o Z69 rfl rfl rfl rfl (fun wc hwc => Z4i (n0 := n0) (v1 := n0.S) wc (h_n0f3.mono hwc) e4) ?_; rintro _ _ ⟨rfl, rfl⟩; refine Z06 rfl rfl rfl rfl ?_; refine Z0r (t := 7) (b' := true) rfl g5 ?_; refine Z0u rfl rfl rfl rfl Z2c mm0 rfl ?_; refine Z05 rfl rfl rfl rfl Z5b ?_; refine Z0c rfl rfl rfl rfl Z0w mm0 rfl ?_; refine Z0o Z69 rfl rfl rfl rfl (fun wc hwc => Z4i (n0 := n0) (v1 := n0.T) wc (h_n0f3.mono hwc) e7) ?_; rintro _ _ ⟨rfl, rfl⟩; refine Z1a rfl rfl rfl rfl rfl ?_; refine Z06 rfl rfl rfl rfl ?_; refine Z0r (t := 13) (b' := true) rfl g8 ?_; refine Z05 rfl rfl rfl rfl Z4p ?_; refine Z0c rfl rfl rfl rfl Z0w mm0 rfl ?_; refine Z05 rfl rfl rfl rfl Z5b ?_; refine Z0c rfl rfl rfl rfl Z0w mm0 rfl ?_; refine Z0p rfl rfl rfl rfl rfl rfl ?_; refine Z1a rfl rfl rfl rfl rfl ?_; refine Z09 rfl rfl rfl rfl ?_; refine Z02 ?_; refine Z01 ?_; refine Z0l (Z00 (t := 2) rfl Z0b) ?_; refine T.ret ?_; obtain rfl := ret1 H; exact Z12 rfl rfl rfl rfl (Res.tmp rfl) Z0a ⟨rfl, rfl⟩
  · refine Z04 (ll := [0, 1, 2, 3, 4, 5, 6, 7, 8, 9, 10, 11, 12, 13, 14, 15, 16, 17]) rfl ?_; refine Z0u rfl rfl rfl rfl Z2c mm0 rfl ?_; refine Z05 rfl rfl rfl rfl Z4p ?_; refine Z0c rfl rfl rfl rfl Z0w mm0 rfl ?_; refine Z0o Z69 rfl rfl rfl rfl (fun wc hwc => Z4i (n0 := n0) (v1 := n0.S) wc (h_n0f3.mono hwc) e4) ?_; rintro _ _ ⟨rfl, rfl⟩; refine Z06 rfl rfl rfl rfl ?_; refine Z0r (t := 7) (b' := true) rfl g5 ?_; refine Z0u rfl rfl rfl rfl Z2c mm0 rfl ?_; refine Z05 rfl rfl rfl rfl Z5b ?_; refine Z0c rfl rfl rfl rfl Z0w mm0 rfl ?_; refine Z0o Z69 rfl rfl rfl rfl (fun wc hwc => Z4i (n0 := n0) (v1 := n0.T) wc (h_n0f3.mono hwc) e7) ?_; rintro _ _ ⟨rfl, rfl⟩; refine Z1a rfl rfl rfl rfl rfl ?_; refine Z06 rfl rfl rfl rfl ?_; refine Z0r (t := 13) (b' := false) rfl (Bool.eq_false_iff.2 g8) ?_; refine Z0f rfl rfl rfl rfl ?_; refine Z0f rfl rfl rfl rfl ?_; refine Z0f rfl rfl rfl rfl ?_; refine Z0f rfl rfl rfl rfl ?_; refine Z0f rfl rfl rfl rfl ?_; refine Z14 rfl rfl rfl rfl rfl ?_; refine Z09 rfl rfl rfl rfl ?_; refine Z02 ?_; refine Z01 ?_; refine Z0l (Z00 (t := 2) rfl Z0b) ?_; refine T.ret ?_; obtain rfl := ret1 H; exact Z12 rfl rfl rfl rfl (Res.tmp rfl) Z0a ⟨rfl, rfl⟩
 · refine Z04 (ll := [0, 1, 2, 3, 4, 5, 6, 7, 8, 9, 10, 11, 12, 13, 14, 15, 16, 17]) rfl ?_; refine Z0u rfl rfl rfl rfl Z2c mm0 rfl ?_; refine Z05 rfl rfl rfl rfl Z4p ?_; refine Z0c rfl rfl rfl rfl Z0w mm0 rfl ?_; refine Z0o Z69 rfl rfl rfl rfl (fun wc hwc => Z4i (n0 := n0) (v1 := n0.S) wc (h_n0f3.mono hwc) e4) ?_; rintro _ _ ⟨rfl, rfl⟩; refine Z06 rfl rfl rfl rfl ?_; refine Z0r (t := 7) (b' := false) rfl (Bool.eq_false_iff.2 g5) ?_; refine Z0f rfl rfl rfl rfl ?_; refine Z0f rfl rfl rfl rfl ?_; refine Z0f rfl rfl rfl rfl ?_; refine Z0f rfl rfl rfl rfl ?_; refine Z14 rfl rfl rfl rfl rfl ?_; refine Z06 rfl rfl rfl rfl ?_; refine Z0f rfl rfl rfl rfl ?_; refine Z0f rfl rfl rfl rfl ?_; refine Z0f rfl rfl rfl rfl ?_; refine Z0f rfl rfl rfl rfl ?_; refine Z0f rfl rfl rfl rfl ?_; refine Z14 rfl rfl rfl rfl rfl ?_; refine Z09 rfl rfl rfl rfl ?_; refine Z02 ?_; refine Z01 ?_; refine Z0l (Z00 (t := 2) rfl Z0b) ?_; refine T.ret ?_; obtain rfl := ret1 H; exact Z12 rfl rfl rfl rfl (Res.tmp rfl) Z0a ⟨rfl, rfl⟩
theorem Zgl {n0 : Net} {a1 : Arc} {n0f3_b : Option Addr} {n0f3_n : Nat} {n0f3_c : Nat} (w : World) (h_n0f3 : RS w [] Z7o 3 n0f3_b n0f3_n n0f3_c n0.Arcs) {r0 : Bool} (H : Z6e n0 a1 = some r0) : Fnc Try.prog 116 #[.agg #[.int .i64 n0.N, .int .i64 n0.S, .int .i64 n0.T, .slice n0f3_b n0f3_n n0f3_c], .agg #[.int .i64 a1.fr, .int .i64 a1.to, .int .i64 a1.cap]] w [] (fun v N => v = .bool r0 ∧ N = []) := by
 unfold Z6e at H; refine Fnc.enter (vs := [.agg #[.int .i64 n0.N, .int .i64 n0.S, .int .i64 n0.T, .slice n0f3_b n0f3_n n0f3_c], .agg #[.int .i64 a1.fr, .int .i64 a1.to, .int .i64 a1.cap]]) Try.func116 rfl rfl (Inv.refl w) ?_; refine Z0d ?_; refine Z04 (ll := [0, 1, 2]) rfl ?_; refine Z1v rfl rfl rfl rfl ?_; intro b1; refine Z1v rfl rfl rfl rfl ?_; intro b3; refine Z09 rfl rfl rfl rfl ?_; refine Z02 ?_; refine Z01 ?_; refine Z0d ?_; obtain ⟨r5, e6, H⟩ := Z0k H; rcases Z0i H with ⟨g7, H⟩ | ⟨g7, H⟩
 · obtain ⟨r8, e9, H⟩ := Z0k H; refine Z04 (ll := [0, 1, 2, 3, 4, 5, 6, 7, 8, 9, 10]) rfl ?_; refine Z0u rfl rfl rfl rfl Z2c mm1 rfl ?_; refine Z05 rfl rfl rfl rfl Z5a ?_; refine Z0c rfl rfl rfl rfl Z0w mm0 rfl ?_; refine Z0o Z69 rfl rfl rfl rfl (fun wc hwc => Z4i (n0 := n0) (v1 := a1.fr) wc (h_n0f3.mono hwc) e6) ?_; rintro _ _ ⟨rfl, rfl⟩; refine Z06 rfl rfl rfl rfl ?_; refine Z0r (t := 9) (b' := true) rfl g7 ?_; refine Z0u rfl rfl rfl rfl Z2c mm1 rfl ?_; refine Z05 rfl rfl rfl rfl Z63 ?_; refine Z0c rfl rfl rfl rfl Z0w mm0 rfl ?_; refine Z0o Z69 rfl rfl rfl rfl (fun wc hwc => Z4i (n0 := n0) (v1 := a1.to) wc (h_n0f3.mono hwc) e9) ?_; rintro _ _ ⟨rfl, rfl⟩; refine Z1a rfl rfl rfl rfl rfl ?_; refine Z09 rfl rfl rfl rfl ?_; refine Z02 ?_; refine Z01 ?_; refine Z0l (Z00 (t := 4) rfl Z0b) ?_; refine T.ret ?_; obtain rfl := ret1 H; exact Z12 rfl rfl rfl rfl (Res.tmp rfl) Z0a ⟨rfl, rfl⟩
 · refine Z04 (ll := [0, 1, 2, 3, 4, 5, 6, 7, 8, 9, 10]) rfl ?_; refine Z0u rfl rfl rfl rfl Z2c mm1 rfl ?_; refine Z05 rfl rfl rfl rfl Z5a ?_; refine Z0c rfl rfl rfl rfl Z0w mm0 rfl ?_; refine Z0o Z69 rfl rfl rfl rfl (fun wc hwc => Z4i (n0 := n0) (v1 := a1.fr) wc (h_n0f3.mono hwc) e6) ?_; rintro _ _ ⟨rfl, rfl⟩; refine Z06 rfl rfl rfl rfl ?_; refine Z0r (t := 9) (b' := false) rfl (Bool.eq_false_iff.2 g7) ?_; refine Z0f rfl rfl rfl rfl ?_; refine Z0f rfl rfl rfl rfl ?_; refine Z0f rfl rfl rfl rfl ?_; refine Z0f rfl rfl rfl rfl ?_; refine Z14 rfl rfl rfl rfl rfl ?_; refine Z09 rfl rfl rfl rfl ?_; refine Z02 ?_; refine Z01 ?_; refine Z0l (Z00 (t := 4) rfl Z0b) ?_; refine T.ret ?_; obtain rfl := ret1 H; exact Z12 rfl rfl rfl rfl (Res.tmp rfl) Z0a ⟨rfl, rfl⟩
theorem Zb7 {a0 : Arc} {c2 : Net} {c1_k : Nat} {c2_k : Nat} {c2f3_b : Option Addr} {c2f3_n : Nat} {c2f3_c : Nat} (w : World) (h_c1_k : HB w [] c1_k [.func (.func 116) #[] #[]]) (h_c2f3 : RS w [] Z7o 3 c2f3_b c2f3_n c2f3_c c2.Arcs) (h_c2_k : HB w [] c2_k [.int .i64 c2.N, .int .i64 c2.S, .int .i64 c2.T, .slice c2f3_b c2f3_n c2f3_c]) {r0 : Bool} (H : Z46 a0 c2 = some r0) : Fnc Try.prog 123 #[.agg #[.int .i64 a0.fr, .int .i64 a0.to, .int .i64 a0.cap], .pointer (some ⟨c1_k, 0, none⟩), .pointer (some ⟨c2_k, 0, none⟩)] w [] (fun v N => v = .bool r0 ∧ N = []) := by
 unfold Z46 at H; refine Fnc.enter (vs := [.agg #[.int .i64 a0.fr, .int .i64 a0.to, .int .i64 a0.cap], .pointer (some ⟨c1_k, 0, none⟩), .pointer (some ⟨c2_k, 0, none⟩)]) Try.func123 rfl rfl (Inv.refl w) ?_; refine Z0d ?_; refine Z04 (ll := [0, 1]) rfl ?_; refine Z1v rfl rfl rfl rfl ?_; intro b1; refine Z09 rfl rfl rfl rfl ?_; refine Z02 ?_; refine Z01 ?_; refine Z0d ?_; obtain ⟨r3, e4, H⟩ := Z0k H; refine Z04 (ll := [0, 1, 2, 3, 4, 5]) rfl ?_; refine Zbt h_c1_k rfl rfl rfl rfl rfl Zg8 ?_; refine Zkh h_c2_k rfl rfl rfl rfl rfl Z2c ?_; refine Z0u rfl rfl rfl rfl Z7n mm0 rfl ?_; refine Z4u Zly rfl rfl rfl rfl rfl (fun wc hwc => Zgl (n0 := c2) (a1 := a0) wc (h_c2f3.mono hwc) e4) ?_; rintro _ _ ⟨rfl, rfl⟩; refine TO.not rfl rfl rfl rfl ?_; refine Z09 rfl rfl rfl rfl ?_; refine Z02 ?_; refine Z01 ?_; refine Z0l (Z00 (t := 4) rfl Z0b) ?_; refine T.ret ?_; obtain rfl := ret1 H; exact Z12 rfl rfl rfl rfl (Res.tmp rfl) Z0a ⟨rfl, rfl⟩
theorem Z5l {s0 : List Arc} {f1_1 : Net} {s0_b : Option Addr} {s0_n : Nat} {s0_c : Nat} {f1_0_k : Nat} {f1_1_k : Nat} {f1_1f3_b : Option Addr} {f1_1f3_n : Nat} {f1_1f3_c : Nat} (w : World) (h_s0 : RS w [] Z7o 3 s0_b s0_n s0_c s0) (h_f1_0_k : HB w [] f1_0_k [.func (.func 116) #[] #[]]) (h_f1_1f3 : RS w [] Z7o 3 f1_1f3_b f1_1f3_n f1_1f3_c f1_1.Arcs) (h_f1_1_k : HB w [] f1_1_k [.int .i64 f1_1.N, .int .i64 f1_1.S, .int .i64 f1_1.T, .slice f1_1f3_b f1_1f3_n f1_1f3_c]) {r0 : Int} (H : Z1l s0 f1_1 = some r0) : Fnc Try.prog 125 #[.slice s0_b s0_n s0_c, .func (.func 123) #[] #[.pointer (some ⟨f1_0_k, 0, none⟩), .pointer (some ⟨f1_1_k, 0, none⟩)]] w [] (fun v N => v = .int .i64 r0 ∧ N = []) := by
 unfold Z1l at H; refine Fnc.enter (vs := [.slice s0_b s0_n s0_c, .func (.func 123) #[] #[.pointer (some ⟨f1_0_k, 0, none⟩), .pointer (some ⟨f1_1_k, 0, none⟩)]]) Try.func125 rfl rfl (Inv.refl w) ?_; refine Z0d ?_; refine Z04 (ll := [0]) rfl ?_; refine Z09 rfl rfl rfl rfl ?_; refine Z02 ?_; refine Z01 ?_; refine Z0d ?_; refine Z0d ?_; refine Z04 (ll := [0, 1, 2]) rfl ?_; refine Z06 rfl rfl rfl rfl ?_; refine Z1f (xs := s0) h_s0.len rfl rfl rfl rfl rfl Z37 ?_; refine Z06 rfl rfl rfl rfl ?_; refine Z02 ?_; refine Z01 ?_; refine Z25 (fun (u8 : Unit) => Z1z = some r0) (fun (u8 : Unit) => []) (fun (u8 : Unit) => []) ?_ ?_
 ·
  refine T.block ?_; obtain ⟨o_1, e_1, K_1⟩ := Z0k H; refine Zb5 (fun (m_1 : Nat) (x1 : Int) => Z2j (fun s => Z19 s0 f1_1 s) m_1 x1 = some o_1) (fun (m_1 : Nat) (x1 : Int) => [(0, .slice s0_b s0_n s0_c), (1, .func (.func 123) #[] #[.pointer (some ⟨f1_0_k, 0, none⟩), .pointer (some ⟨f1_1_k, 0, none⟩)]), (7, .int .i64 (s0.length : Int)), (8, .int .i64 x1)]) (fun (m_1 : Nat) (x1 : Int) => []) (fun (m_1 : Nat) (x1 : Int) => m_1) Z4w 0 e_1 (Z00 rfl (Z00 rfl (Z00 rfl (Z00 rfl Z0b)))) Z0a ?_; rintro m_1 x1 H; obtain ⟨n_1, r_1, rfl, H, C_1⟩ := Z1o H; have H : Z19 s0 f1_1 x1 = some r_1 := H; unfold Z19 at H; refine Z0d ?_; refine Z04 (ll := [0]) rfl ?_; refine Z0p rfl rfl rfl rfl rfl rfl ?_; refine Z02 ?_; refine Z01 ?_; refine Z0d ?_; rcases Z0i H with ⟨g2, H⟩ | ⟨g2, H⟩
  ·
   refine Z15 rfl g2 ?_; refine T.skip ?_; refine Z01 ?_; refine Z0d ?_; refine T.block ?_; refine Z0d ?_; refine Z04 (ll := [0, 1]) rfl ?_; refine Z06 rfl rfl rfl rfl ?_; refine Z09 rfl rfl rfl rfl ?_; refine Z02 ?_; refine Z01 ?_; refine Z0d ?_; obtain ⟨g3, H⟩ := Z0e H; obtain ⟨r4, e5, H⟩ := Z0k H; refine Z04 (ll := [0, 1, 2, 3, 4, 5]) rfl ?_; refine Z06 rfl rfl rfl rfl ?_; refine Z06 rfl rfl rfl rfl ?_; refine Z06 rfl rfl rfl rfl ?_; refine Z2e h_s0 g3 rfl rfl rfl rfl rfl Z37 Z4g ?_; refine Zax (cs := [.int .i64 ((s0.getD x1.toNat default).fr), .int .i64 ((s0.getD x1.toNat default).to), .int .i64 ((s0.getD x1.toNat default).cap)]) default h_s0 g3 rfl rfl rfl rfl rfl Z7n ?_; refine Z4u Zga rfl rfl rfl rfl rfl (fun wc hwc => Zb7 (a0 := (s0.getD x1.toNat default)) (c2 := f1_1) wc (h_f1_0_k.mono hwc) (h_f1_1f3.mono hwc) (h_f1_1_k.mono hwc) e5) ?_; rintro _ _ ⟨rfl, rfl⟩; refine Z02 ?_; refine Z01 ?_; rcases Z0i H with ⟨g6, H⟩ | ⟨g6, H⟩
   · refine Z26 rfl g6 ?_; refine Z0d ?_; refine Z04 (ll := [0, 1]) rfl ?_; refine Z06 rfl rfl rfl rfl ?_; refine Z09 rfl rfl rfl rfl ?_; refine Z02 ?_; refine Z01 ?_; refine Z0l (Z00 (t := 4) rfl Z0b) ?_; refine T.ret ?_; refine Z0n ?_; refine Z0h ?_; have H := Z0v H C_1 ▸ K_1; refine Z0h ?_; refine Z0n ?_; refine Z0h ?_; obtain rfl := ret1 H; exact Z12 rfl rfl rfl rfl (Res.tmp rfl) Z0a ⟨rfl, rfl⟩
   · refine Z34 rfl (Bool.eq_false_iff.2 g6) ?_; refine T.skip ?_; refine Z0j ?_; refine Z01 ?_; refine Z0l (Z00 (t := 0) rfl (Z00 (t := 1) rfl (Z00 (t := 7) rfl (Z00 (t := 8) rfl Z0b)))) ?_; obtain ⟨g7, H⟩ := Z0e H; refine Z04 (ll := [0, 1]) rfl ?_; refine Z11 g7 rfl rfl rfl rfl rfl ?_; refine Z06 rfl rfl rfl rfl ?_; refine Z02 ?_; have H := Z1c H C_1; exact Z9d n_1 (x1 + 1) H (Nat.lt_succ_self _) (Z00 rfl (Z00 rfl (Z00 rfl (Z00 rfl Z0b)))) Z0a
  · refine Z16 rfl g2 ?_; refine T.exit ?_; refine Z0m ?_; have H := Z0v H C_1 ▸ K_1; refine Z0m ?_; refine Z13 ?_; exact Z2b () H Z0b Z0a
 · rintro u8 H; unfold Z1z at H; refine Z0d ?_; refine Z04 (ll := [0]) rfl ?_; refine Z09 rfl rfl rfl rfl ?_; refine Z02 ?_; refine Z01 ?_; refine T.ret ?_; obtain rfl := ret1 H; exact Z12 rfl rfl rfl rfl (Res.tmp rfl) Z0a ⟨rfl, rfl⟩
theorem Z4z {s0 : List Arc} {f1_1 : Net} {s0_b : Option Addr} {s0_n : Nat} {s0_c : Nat} {f1_0_k : Nat} {f1_1_k : Nat} {f1_1f3_b : Option Addr} {f1_1f3_n : Nat} {f1_1f3_c : Nat} (w : World) (h_s0 : RS w [] Z7o 3 s0_b s0_n s0_c s0) (h_f1_0_k : HB w [] f1_0_k [.func (.func 116) #[] #[]]) (h_f1_1f3 : RS w [] Z7o 3 f1_1f3_b f1_1f3_n f1_1f3_c f1_1.Arcs) (h_f1_1_k : HB w [] f1_1_k [.int .i64 f1_1.N, .int .i64 f1_1.S, .int .i64 f1_1.T, .slice f1_1f3_b f1_1f3_n f1_1f3_c]) {r0 : Bool} (H : Z1e s0 f1_1 = some r0) : Fnc Try.prog 122 #[.slice s0_b s0_n s0_c, .func (.func 123) #[] #[.pointer (some ⟨f1_0_k, 0, none⟩), .pointer (some ⟨f1_1_k, 0, none⟩)]] w [] (fun v N => v = .bool r0 ∧ N = []) := by
 unfold Z1e at H; refine Fnc.enter (vs := [.slice s0_b s0_n s0_c, .func (.func 123) #[] #[.pointer (some ⟨f1_0_k, 0, none⟩), .pointer (some ⟨f1_1_k, 0, none⟩)]]) Try.func122 rfl rfl (Inv.refl w) ?_; refine Z0d ?_; refine Z04 (ll := [0]) rfl ?_; refine Z09 rfl rfl rfl rfl ?_; refine Z02 ?_; refine Z01 ?_; refine Z0d ?_; obtain ⟨r1, e2, H⟩ := Z0k H; refine Z04 (ll := [0, 1, 2, 3, 4]) rfl ?_; refine Z06 rfl rfl rfl rfl ?_; refine Z06 rfl rfl rfl rfl ?_; refine Z0o Zg9 rfl rfl rfl rfl (fun wc hwc => Z5l (s0 := s0) (f1_1 := f1_1) wc (h_s0.mono hwc) (h_f1_0_k.mono hwc) (h_f1_1f3.mono hwc) (h_f1_1_k.mono hwc) e2) ?_; rintro _ _ ⟨rfl, rfl⟩; refine Z0p rfl rfl rfl rfl rfl rfl ?_; refine Z09 rfl rfl rfl rfl ?_; refine Z02 ?_; refine Z01 ?_; refine T.ret ?_; obtain rfl := ret1 H; exact Z12 rfl rfl rfl rfl (Res.tmp rfl) Z0a ⟨rfl, rfl⟩
theorem Zbw {n0 : Net} {n0f3_b : Option Addr} {n0f3_n : Nat} {n0f3_c : Nat} {c1_k : Nat} (w : World) (h_n0f3 : RS w [] Z7o 3 n0f3_b n0f3_n n0f3_c n0.Arcs) (h_c1_k : HB w [] c1_k [.func (.func 116) #[] #[]]) {r0 : Bool} (H : Z3t n0 = some r0) : Fnc Try.prog 121 #[.agg #[.int .i64 n0.N, .int .i64 n0.S, .int .i64 n0.T, .slice n0f3_b n0f3_n n0f3_c], .pointer (some ⟨c1_k, 0, none⟩)] w [] (fun v N => v = .bool r0 ∧ N = []) := by
 unfold Z3t at H; refine Fnc.enter (vs := [.agg #[.int .i64 n0.N, .int .i64 n0.S, .int .i64 n0.T, .slice n0f3_b n0f3_n n0f3_c], .pointer (some ⟨c1_k, 0, none⟩)]) Try.func121 rfl rfl (Inv.refl w) ?_; refine Z0d ?_; refine Z04 (ll := [0, 1]) rfl ?_; refine Z1v rfl rfl rfl rfl ?_; intro b1; refine Z09 rfl rfl rfl rfl ?_; refine Z02 ?_; refine Z01 ?_; refine Z0d ?_; obtain ⟨r3, e4, H⟩ := Z0k H; refine Z04 (ll := [0, 1, 2, 3, 4, 5]) rfl ?_; refine Z05 rfl rfl rfl rfl Z43 ?_; refine Z0c rfl rfl rfl rfl Z6s mm0 rfl ?_; refine TO.makeFunc rfl rfl rfl rfl rfl ?_; refine Z0o Zgb rfl rfl rfl rfl (fun wc hwc => Z4z (s0 := n0.Arcs) (f1_1 := n0) wc (h_n0f3.mono hwc) (h_c1_k.mono hwc) (h_n0f3.mono hwc) (hwc.hb (cs := [.int .i64 n0.N, .int .i64 n0.S, .int .i64 n0.T, .slice n0f3_b n0f3_n n0f3_c]) mm0) e4) ?_; rintro _ _ ⟨rfl, rfl⟩; refine TO.not rfl rfl rfl rfl ?_; refine Z09 rfl rfl rfl rfl ?_; refine Z02 ?_; refine Z01 ?_; refine Z0l (Z00 (t := 3) rfl Z0b) ?_; refine T.ret ?_; obtain rfl := ret1 H; exact Z12 rfl rfl rfl rfl (Res.tmp rfl) Z0a ⟨rfl, rfl⟩
theorem Zgk {n0 : Net} {a1 : Arc} {n0f3_b : Option Addr} {n0f3_n : Nat} {n0f3_c : Nat} (w : World) (h_n0f3 : RS w [] Z7o 3 n0f3_b n0f3_n n0f3_c n0.Arcs) {r0 : Bool} (H : Z7t n0 a1 = some r0) : Fnc Try.prog 117 #[.agg #[.int .i64 n0.N, .int .i64 n0.S, .int .i64 n0.T, .slice n0f3_b n0f3_n n0f3_c], .agg #[.int .i64 a1.fr, .int .i64 a1.to, .int .i64 a1.cap]] w [] (fun v N => v = .bool r0 ∧ N = []) := by
 unfold Z7t at H; refine Fnc.enter (vs := [.agg #[.int .i64 n0.N, .int .i64 n0.S, .int .i64 n0.T, .slice n0f3_b n0f3_n n0f3_c], .agg #[.int .i64 a1.fr, .int .i64 a1.to, .int .i64 a1.cap]]) Try.func117 rfl rfl (Inv.refl w) ?_; refine Z0d ?_; refine Z04 (ll := [0, 1, 2]) rfl ?_; refine Z1v rfl rfl rfl rfl ?_; intro b1; refine Z1v rfl rfl rfl rfl ?_; intro b3; refine Z09 rfl rfl rfl rfl ?_; refine Z02 ?_; refine Z01 ?_; refine Z0d ?_; refine Z04 (ll := [0, 1, 2, 3]) rfl ?_; refine Z05 rfl rfl rfl rfl Z62 ?_; refine Z0c rfl rfl rfl rfl Za4 mm0 rfl ?_; refine Z0p rfl rfl rfl rfl rfl rfl ?_; refine Z09 rfl rfl rfl rfl ?_; refine Z02 ?_; refine Z01 ?_; refine T.ret ?_; obtain rfl := ret1 H; exact Z12 rfl rfl rfl rfl (Res.tmp rfl) Z0a ⟨rfl, rfl⟩
theorem Zb6 {a0 : Arc} {c2 : Net} {c1_k : Nat} {c2_k : Nat} {c2f3_b : Option Addr} {c2f3_n : Nat} {c2f3_c : Nat} (w : World) (h_c1_k : HB w [] c1_k [.func (.func 117) #[] #[]]) (h_c2f3 : RS w [] Z7o 3 c2f3_b c2f3_n c2f3_c c2.Arcs) (h_c2_k : HB w [] c2_k [.int .i64 c2.N, .int .i64 c2.S, .int .i64 c2.T, .slice c2f3_b c2f3_n c2f3_c]) {r0 : Bool} (H : Z45 a0 c2 = some r0) : Fnc Try.prog 123 #[.agg #[.int .i64 a0.fr, .int .i64 a0.to, .int .i64 a0.cap], .pointer (some ⟨c1_k, 0, none⟩), .pointer (some ⟨c2_k, 0, none⟩)] w [] (fun v N => v = .bool r0 ∧ N = []) := by
 unfold Z45 at H; refine Fnc.enter (vs := [.agg #[.int .i64 a0.fr, .int .i64 a0.to, .int .i64 a0.cap], .pointer (some ⟨c1_k, 0, none⟩), .pointer (some ⟨c2_k, 0, none⟩)]) Try.func123 rfl rfl (Inv.refl w) ?_; refine Z0d ?_; refine Z04 (ll := [0, 1]) rfl ?_; refine Z1v rfl rfl rfl rfl ?_; intro b1; refine Z09 rfl rfl rfl rfl ?_; refine Z02 ?_; refine Z01 ?_; refine Z0d ?_; obtain ⟨r3, e4, H⟩ := Z0k H; refine Z04 (ll := [0, 1, 2, 3, 4, 5]) rfl ?_; refine Zbt h_c1_k rfl rfl rfl rfl rfl Zg8 ?_; refine Zkh h_c2_k rfl rfl rfl rfl rfl Z2c ?_; refine Z0u rfl rfl rfl rfl Z7n mm0 rfl ?_; refine Z4u Zlx rfl rfl rfl rfl rfl (fun wc hwc => Zgk (n0 := c2) (a1 := a0) wc (h_c2f3.mono hwc) e4) ?_; rintro _ _ ⟨rfl, rfl⟩; refine TO.not rfl rfl rfl rfl ?_; refine Z09 rfl rfl rfl rfl ?_; refine Z02 ?_; refine Z01 ?_; refine Z0l (Z00 (t := 4) rfl Z0b) ?_; refine T.ret ?_; obtain rfl := ret1 H; exact Z12 rfl rfl rfl rfl (Res.tmp rfl) Z0a ⟨rfl, rfl⟩
theorem Z5k {s0 : List Arc} {f1_1 : Net} {s0_b : Option Addr} {s0_n : Nat} {s0_c : Nat} {f1_0_k : Nat} {f1_1_k : Nat} {f1_1f3_b : Option Addr} {f1_1f3_n : Nat} {f1_1f3_c : Nat} (w : World) (h_s0 : RS w [] Z7o 3 s0_b s0_n s0_c s0) (h_f1_0_k : HB w [] f1_0_k [.func (.func 117) #[] #[]]) (h_f1_1f3 : RS w [] Z7o 3 f1_1f3_b f1_1f3_n f1_1f3_c f1_1.Arcs) (h_f1_1_k : HB w [] f1_1_k [.int .i64 f1_1.N, .int .i64 f1_1.S, .int .i64 f1_1.T, .slice f1_1f3_b f1_1f3_n f1_1f3_c]) {r0 : Int} (H : Z1k s0 f1_1 = some r0) : Fnc Try.prog 125 #[.slice s0_b s0_n s0_c, .func (.func 123) #[] #[.pointer (some ⟨f1_0_k, 0, none⟩), .pointer (some ⟨f1_1_k, 0, none⟩)]] w [] (fun v N => v = .int .i64 r0 ∧ N = []) := by
 unfold Z1k at H; refine Fnc.enter (vs := [.slice s0_b s0_n s0_c, .func (.func 123) #[] #[.pointer (some ⟨f1_0_k, 0, none⟩), .pointer (some ⟨f1_1_k, 0, none⟩)]]) Try.func125 rfl rfl (Inv.refl w) ?_; refine Z0d ?_; refine Z04 (ll := [0]) rfl ?_; refine Z09 rfl rfl rfl rfl ?_; refine Z02 ?_; refine Z01 ?_; refine Z0d ?_; refine Z0d ?_; refine Z04 (ll := [0, 1, 2]) rfl ?_; refine Z06 rfl rfl rfl rfl ?_; refine Z1f (xs := s0) h_s0.len rfl rfl rfl rfl rfl Z37 ?_; refine Z06 rfl rfl rfl rfl ?_; refine Z02 ?_; refine Z01 ?_; refine Z25 (fun (u8 : Unit) => Z1y = some r0) (fun (u8 : Unit) => []) (fun (u8 : Unit) => []) ?_ ?_
 ·
  refine T.block ?_; obtain ⟨o_1, e_1, K_1⟩ := Z0k H; refine Zb5 (fun (m_1 : Nat) (x1 : Int) => Z2j (fun s => Z18 s0 f1_1 s) m_1 x1 = some o_1) (fun (m_1 : Nat) (x1 : Int) => [(0, .slice s0_b s0_n s0_c), (1, .func (.func 123) #[] #[.pointer (some ⟨f1_0_k, 0, none⟩), .pointer (some ⟨f1_1_k, 0, none⟩)]), (7, .int .i64 (s0.length : Int)), (8, .int .i64 x1)]) (fun (m_1 : Nat) (x1 : Int) => []) (fun (m_1 : Nat) (x1 : Int) => m_1) Z4w 0 e_1 (Z00 rfl (Z00 rfl (Z00 rfl (Z00 rfl Z0b)))) Z0a ?_; rintro m_1 x1 H; obtain ⟨n_1, r_1, rfl, H, C_1⟩ := Z1o H; have H : Z18 s0 f1_1 x1 = some r_1 := H; unfold Z18 at H; refine Z0d ?_; refine Z04 (ll := [0]) rfl ?_; refine Z0p rfl rfl rfl rfl rfl rfl ?_; refine Z02 ?_; refine Z01 ?_; refine Z0d ?_; rcases Z0i H with ⟨g2, H⟩ | ⟨g2, H⟩
  ·
   refine Z15 rfl g2 ?_; refine T.skip ?_; refine Z01 ?_; refine Z0d ?_; refine T.block ?_; refine Z0d ?_; refine Z04 (ll := [0, 1]) rfl ?_; refine Z06 rfl rfl rfl rfl ?_; refine Z09 rfl rfl rfl rfl ?_; refine Z02 ?_; refine Z01 ?_; refine Z0d ?_; obtain ⟨g3, H⟩ := Z0e H; obtain ⟨r4, e5, H⟩ := Z0k H; refine Z04 (ll := [0, 1, 2, 3, 4, 5]) rfl ?_; refine Z06 rfl rfl rfl rfl ?_; refine Z06 rfl rfl rfl rfl ?_; refine Z06 rfl rfl rfl rfl ?_; refine Z2e h_s0 g3 rfl rfl rfl rfl rfl Z37 Z4g ?_; refine Zax (cs := [.int .i64 ((s0.getD x1.toNat default).fr), .int .i64 ((s0.getD x1.toNat default).to), .int .i64 ((s0.getD x1.toNat default).cap)]) default h_s0 g3 rfl rfl rfl rfl rfl Z7n ?_; refine Z4u Zga rfl rfl rfl rfl rfl (fun wc hwc => Zb6 (a0 := (s0.getD x1.toNat default)) (c2 := f1_1) wc (h_f1_0_k.mono hwc) (h_f1_1f3.mono hwc) (h_f1_1_k.mono hwc) e5) ?_; rintro _ _ ⟨rfl, rfl⟩; refine Z02 ?_; refine Z01 ?_; rcases Z0i H with ⟨g6, H⟩ | ⟨g6, H⟩
   · refine Z26 rfl g6 ?_; refine Z0d ?_; refine Z04 (ll := [0, 1]) rfl ?_; refine Z06 rfl rfl rfl rfl ?_; refine Z09 rfl rfl rfl rfl ?_; refine Z02 ?_; refine Z01 ?_; refine Z0l (Z00 (t := 4) rfl Z0b) ?_; refine T.ret ?_; refine Z0n ?_; refine Z0h ?_; have H := Z0v H C_1 ▸ K_1; refine Z0h ?_; refine Z0n ?_; refine Z0h ?_; obtain rfl := ret1 H; exact Z12 rfl rfl rfl rfl (Res.tmp rfl) Z0a ⟨rfl, rfl⟩
   · refine Z34 rfl (Bool.eq_false_iff.2 g6) ?_; refine T.skip ?_; refine Z0j ?_; refine Z01 ?_; refine Z0l (Z00 (t := 0) rfl (Z00 (t := 1) rfl (Z00 (t := 7) rfl (Z00 (t := 8) rfl Z0b)))) ?_; obtain ⟨g7, H⟩ := Z0e H; refine Z04 (ll := [0, 1]) rfl ?_; refine Z11 g7 rfl rfl rfl rfl rfl ?_; refine Z06 rfl rfl rfl rfl ?_; refine Z02 ?_; have H := Z1c H C_1; exact Z9d n_1 (x1 + 1) H (Nat.lt_succ_self _) (Z00 rfl (Z00 rfl (Z00 rfl (Z00 rfl Z0b)))) Z0a
  · refine Z16 rfl g2 ?_; refine T.exit ?_; refine Z0m ?_; have H := Z0v H C_1 ▸ K_1; refine Z0m ?_; refine Z13 ?_; exact Z2b () H Z0b Z0a
 · rintro u8 H; unfold Z1y at H; refine Z0d ?_; refine Z04 (ll := [0]) rfl ?_; refine Z09 rfl rfl rfl rfl ?_; refine Z02 ?_; refine Z01 ?_; refine T.ret ?_; obtain rfl := ret1 H; exact Z12 rfl rfl rfl rfl (Res.tmp rfl) Z0a ⟨rfl, rfl⟩
theorem Z4y {s0 : List Arc} {f1_1 : Net} {s0_b : Option Addr} {s0_n : Nat} {s0_c : Nat} {f1_0_k : Nat} {f1_1_k : Nat} {f1_1f3_b : Option Addr} {f1_1f3_n : Nat} {f1_1f3_c : Nat} (w : World) (h_s0 : RS w [] Z7o 3 s0_b s0_n s0_c s0) (h_f1_0_k : HB w [] f1_0_k [.func (.func 117) #[] #[]]) (h_f1_1f3 : RS w [] Z7o 3 f1_1f3_b f1_1f3_n f1_1f3_c f1_1.Arcs) (h_f1_1_k : HB w [] f1_1_k [.int .i64 f1_1.N, .int .i64 f1_1.S, .int .i64 f1_1.T, .slice f1_1f3_b f1_1f3_n f1_1f3_c]) {r0 : Bool} (H : Z1d s0 f1_1 = some r0) : Fnc Try.prog 122 #[.slice s0_b s0_n s0_c, .func (.func 123) #[] #[.pointer (some ⟨f1_0_k, 0, none⟩), .pointer (some ⟨f1_1_k, 0, none⟩)]] w [] (fun v N => v = .bool r0 ∧ N = []) := by
 unfold Z1d at H; refine Fnc.enter (vs := [.slice s0_b s0_n s0_c, .func (.func 123) #[] #[.pointer (some ⟨f1_0_k, 0, none⟩), .pointer (some ⟨f1_1_k, 0, none⟩)]]) Try.func122 rfl rfl (Inv.refl w) ?_; refine Z0d ?_; refine Z04 (ll := [0]) rfl ?_; refine Z09 rfl rfl rfl rfl ?_; refine Z02 ?_; refine Z01 ?_; refine Z0d ?_; obtain ⟨r1, e2, H⟩ := Z0k H; refine Z04 (ll := [0, 1, 2, 3, 4]) rfl ?_; refine Z06 rfl rfl rfl rfl ?_; refine Z06 rfl rfl rfl rfl ?_; refine Z0o Zg9 rfl rfl rfl rfl (fun wc hwc => Z5k (s0 := s0) (f1_1 := f1_1) wc (h_s0.mono hwc) (h_f1_0_k.mono hwc) (h_f1_1f3.mono hwc) (h_f1_1_k.mono hwc) e2) ?_; rintro _ _ ⟨rfl, rfl⟩; refine Z0p rfl rfl rfl rfl rfl rfl ?_; refine Z09 rfl rfl rfl rfl ?_; refine Z02 ?_; refine Z01 ?_; refine T.ret ?_; obtain rfl := ret1 H; exact Z12 rfl rfl rfl rfl (Res.tmp rfl) Z0a ⟨rfl, rfl⟩
theorem Zbv {n0 : Net} {n0f3_b : Option Addr} {n0f3_n : Nat} {n0f3_c : Nat} {c1_k : Nat} (w : World) (h_n0f3 : RS w [] Z7o 3 n0f3_b n0f3_n n0f3_c n0.Arcs) (h_c1_k : HB w [] c1_k [.func (.func 117) #[] #[]]) {r0 : Bool} (H : Z3s n0 = some r0) : Fnc Try.prog 121 #[.agg #[.int .i64 n0.N, .int .i64 n0.S, .int .i64 n0.T, .slice n0f3_b n0f3_n n0f3_c], .pointer (some ⟨c1_k, 0, none⟩)] w [] (fun v N => v = .bool r0 ∧ N = []) := by
 unfold Z3s at H; refine Fnc.enter (vs := [.agg #[.int .i64 n0.N, .int .i64 n0.S, .int .i64 n0.T, .slice n0f3_b n0f3_n n0f3_c], .pointer (some ⟨c1_k, 0, none⟩)]) Try.func121 rfl rfl (Inv.refl w) ?_; refine Z0d ?_; refine Z04 (ll := [0, 1]) rfl ?_; refine Z1v rfl rfl rfl rfl ?_; intro b1; refine Z09 rfl rfl rfl rfl ?_; refine Z02 ?_; refine Z01 ?_; refine Z0d ?_; obtain ⟨r3, e4, H⟩ := Z0k H; refine Z04 (ll := [0, 1, 2, 3, 4, 5]) rfl ?_; refine Z05 rfl rfl rfl rfl Z43 ?_; refine Z0c rfl rfl rfl rfl Z6s mm0 rfl ?_; refine TO.makeFunc rfl rfl rfl rfl rfl ?_; refine Z0o Zgb rfl rfl rfl rfl (fun wc hwc => Z4y (s0 := n0.Arcs) (f1_1 := n0) wc (h_n0f3.mono hwc) (h_c1_k.mono hwc) (h_n0f3.mono hwc) (hwc.hb (cs := [.int .i64 n0.N, .int .i64 n0.S, .int .i64 n0.T, .slice n0f3_b n0f3_n n0f3_c]) mm0) e4) ?_; rintro _ _ ⟨rfl, rfl⟩; refine TO.not rfl rfl rfl rfl ?_; refine Z09 rfl rfl rfl rfl ?_; refine Z02 ?_; refine Z01 ?_; refine Z0l (Z00 (t := 3) rfl Z0b) ?_; refine T.ret ?_; obtain rfl := ret1 H; exact Z12 rfl rfl rfl rfl (Res.tmp rfl) Z0a ⟨rfl, rfl⟩
theorem Zme {n0 : Net} {n0f3_b : Option Addr} {n0f3_n : Nat} {n0f3_c : Nat} (w : World) (h_n0f3 : RS w [] Z7o 3 n0f3_b n0f3_n n0f3_c n0.Arcs) {r0 : Int} {r1 : Bool} (H : Zal n0 = some (r0, r1)) : Fnc Try.prog 119 #[.agg #[.int .i64 n0.N, .int .i64 n0.S, .int .i64 n0.T, .slice n0f3_b n0f3_n n0f3_c]] w [] (fun v N => v = .tuple #[.int .i64 r0, .bool r1] ∧ N = []) := by
 unfold Zal at H; refine Fnc.enter (vs := [.agg #[.int .i64 n0.N, .int .i64 n0.S, .int .i64 n0.T, .slice n0f3_b n0f3_n n0f3_c]]) Try.func119 rfl rfl (Inv.refl w) ?_; refine Z0d ?_; refine Z04 (ll := [0, 1, 2]) rfl ?_; refine Z1v rfl rfl rfl rfl ?_; intro b1; refine Z09 rfl rfl rfl rfl ?_; refine Z09 rfl rfl rfl rfl ?_; refine Z02 ?_; refine Z01 ?_; refine Z0d ?_; refine Z04 (ll := [0]) rfl ?_; refine Z09 rfl rfl rfl rfl ?_; refine Z02 ?_; refine Z01 ?_; refine Z0d ?_; refine Z0d ?_; refine Z04 (ll := [0, 1, 2, 3]) rfl ?_; refine Z05 rfl rfl rfl rfl Z43 ?_; refine Z0c rfl rfl rfl rfl Z6s mm0 rfl ?_; refine Z1f (xs := n0.Arcs) h_n0f3.len rfl rfl rfl rfl rfl Z37 ?_; refine Z06 rfl rfl rfl rfl ?_; refine Z02 ?_; refine Z01 ?_; refine Z25 (fun (left14 : Int) => Z8v left14 = some (r0, r1)) (fun (left14 : Int) => [(4, .int .i64 left14)]) (fun (left14 : Int) => []) ?_ ?_
 ·
  refine T.block ?_; obtain ⟨o_1, e_1, K_1⟩ := Z0k H; refine Z81 (fun (m_1 : Nat) (left3 : Int) (x4 : Int) => Z2j (fun s => Z7b n0 s.1 s.2) m_1 (left3, x4) = some o_1) (fun (m_1 : Nat) (left3 : Int) (x4 : Int) => [(4, .int .i64 left3), (8, .slice n0f3_b n0f3_n n0f3_c), (9, .int .i64 (n0.Arcs.length : Int)), (10, .int .i64 x4)]) (fun (m_1 : Nat) (left3 : Int) (x4 : Int) => []) (fun (m_1 : Nat) (left3 : Int) (x4 : Int) => m_1) Z4w 4611686018427387904 0 e_1 (Z00 rfl (Z00 rfl (Z00 rfl (Z00 rfl Z0b)))) Z0a ?_; rintro m_1 left3 x4 H; obtain ⟨n_1, r_1, rfl, H, C_1⟩ := Z1o H; have H : Z7b n0 left3 x4 = some r_1 := H; unfold Z7b at H; refine Z0d ?_; refine Z04 (ll := [0]) rfl ?_; refine Z0p rfl rfl rfl rfl rfl rfl ?_; refine Z02 ?_; refine Z01 ?_; refine Z0d ?_; rcases Z0i H with ⟨g5, H⟩ | ⟨g5, H⟩
  ·
   refine Z15 rfl g5 ?_; refine T.skip ?_; refine Z01 ?_; refine Z0d ?_; refine T.block ?_; refine Z0d ?_; obtain ⟨g6, H⟩ := Z0e H; refine Z04 (ll := [0, 1, 2, 3]) rfl ?_; refine Z2e h_n0f3 g6 rfl rfl rfl rfl rfl Z37 Z4g ?_; refine Zax (cs := [.int .i64 ((n0.Arcs.getD x4.toNat default).fr), .int .i64 ((n0.Arcs.getD x4.toNat default).to), .int .i64 ((n0.Arcs.getD x4.toNat default).cap)]) default h_n0f3 g6 rfl rfl rfl rfl rfl Z7n ?_; refine Z0z rfl rfl rfl Z9h ?_; intro b7; refine Z0t rfl rfl rfl rfl tk0 Z4g rfl rfl rfl ?_; refine Z02 ?_; refine Z01 ?_; refine Z0d ?_; refine Z0d ?_; refine Z25 (fun (x10 : Bool) => Z7c n0 left3 x4 x10 = some r_1) (fun (x10 : Bool) => [(4, .int .i64 left3), (6, .pointer (some ⟨b7, 0, none⟩)), (8, .slice n0f3_b n0f3_n n0f3_c), (9, .int .i64 (n0.Arcs.length : Int)), (10, .int .i64 x4), (22, .bool x10)]) (fun (x10 : Bool) => [(some b7, .cells #[.int .i64 ((n0.Arcs.getD x4.toNat default).fr), .int .i64 ((n0.Arcs.getD x4.toNat default).to), .int .i64 ((n0.Arcs.getD x4.toNat default).cap)] 67 (0, 0))]) ?_ ?_
   ·
    rcases Z0i H with ⟨g9, H⟩ | ⟨g9, H⟩
    · refine Z04 (ll := [0, 1, 2, 3, 4, 5, 6, 7, 8]) rfl ?_; refine Z05 rfl rfl rfl rfl Z62 ?_; refine Z0c rfl rfl rfl rfl Za4 mm0 rfl ?_; refine Z0p rfl rfl rfl rfl rfl rfl ?_; refine Z06 rfl rfl rfl rfl ?_; refine Z0r (t := 17) (b' := true) rfl (decide_eq_true g9) ?_; refine Z0f rfl rfl rfl rfl ?_; refine Z0f rfl rfl rfl rfl ?_; refine Z0f rfl rfl rfl rfl ?_; refine Z0f rfl rfl rfl rfl ?_; refine Z1a rfl rfl rfl rfl rfl ?_; refine Z02 ?_; exact Z2b true H (Z00 rfl (Z00 rfl (Z00 rfl (Z00 rfl (Z00 rfl (Z00 rfl Z0b)))))) (Z03 tk0 Z0a)
    · refine Z04 (ll := [0, 1, 2, 3, 4, 5, 6, 7, 8]) rfl ?_; refine Z05 rfl rfl rfl rfl Z62 ?_; refine Z0c rfl rfl rfl rfl Za4 mm0 rfl ?_; refine Z0p rfl rfl rfl rfl rfl rfl ?_; refine Z06 rfl rfl rfl rfl ?_; refine Z0r (t := 17) (b' := false) rfl (decide_eq_false g9) ?_; refine Z05 rfl rfl rfl rfl Z62 ?_; refine Z0c rfl rfl rfl rfl Za4 mm0 rfl ?_; refine Z06 rfl rfl rfl rfl ?_; refine Z0p rfl rfl rfl rfl rfl rfl ?_; refine Z14 rfl rfl rfl rfl rfl ?_; refine Z02 ?_; exact Z2b (decide (left3 < ((n0.Arcs.getD x4.toNat default).cap))) H (Z00 rfl (Z00 rfl (Z00 rfl (Z00 rfl (Z00 rfl (Z00 rfl Z0b)))))) (Z03 tk0 Z0a)
   ·
    rintro x10 H; unfold Z7c at H; rcases Z0i H with ⟨g11, H⟩ | ⟨g11, H⟩
    · refine Z26 rfl g11 ?_; refine Z0d ?_; refine Z04 (ll := [0, 1]) rfl ?_; refine Z09 rfl rfl rfl rfl ?_; refine Z09 rfl rfl rfl rfl ?_; refine Z02 ?_; refine Z01 ?_; refine T.ret ?_; refine Z0h ?_; refine Z0n ?_; refine Z0h ?_; have H := Z0v H C_1 ▸ K_1; refine Z0h ?_; refine Z0n ?_; refine Z0h ?_; obtain ⟨rfl, rfl⟩ := ret2 H; exact Z7f rfl rfl rfl rfl (Res.tmp rfl) (Res.tmp rfl) Z0a ⟨rfl, rfl⟩
    · refine Z34 rfl (Bool.eq_false_iff.2 g11) ?_; refine T.skip ?_; refine Z01 ?_; obtain ⟨g12, H⟩ := Z0e H; refine Z04 (ll := [0, 1, 2, 3, 4]) rfl ?_; refine Z06 rfl rfl rfl rfl ?_; refine Z05 rfl rfl rfl rfl Z62 ?_; refine Z0c rfl rfl rfl rfl Za4 mm0 rfl ?_; refine Z73 g12 rfl rfl rfl rfl rfl ?_; refine Z09 rfl rfl rfl rfl ?_; refine Z02 ?_; refine Z0j ?_; refine Z01 ?_; obtain ⟨g13, H⟩ := Z0e H; refine Z04 (ll := [0, 1]) rfl ?_; refine Z11 g13 rfl rfl rfl rfl rfl ?_; refine Z06 rfl rfl rfl rfl ?_; refine Z02 ?_; have H := Z1c H C_1; exact Z3y n_1 (left3 - ((n0.Arcs.getD x4.toNat default).cap)) (x4 + 1) H (Nat.lt_succ_self _) (Z00 rfl (Z00 rfl (Z00 rfl (Z00 rfl Z0b)))) Z0a
  · refine Z16 rfl g5 ?_; refine T.exit ?_; refine Z0m ?_; have H := Z0v H C_1 ▸ K_1; refine Z0m ?_; refine Z13 ?_; exact Z2b left3 H (Z00 rfl Z0b) Z0a
 · rintro left14 H; unfold Z8v at H; refine Z0d ?_; obtain ⟨g15, H⟩ := Z0e H; refine Z04 (ll := [0, 1, 2, 3]) rfl ?_; refine Z06 rfl rfl rfl rfl ?_; refine Z73 g15 rfl rfl rfl rfl rfl ?_; refine Z09 rfl rfl rfl rfl ?_; refine Z09 rfl rfl rfl rfl ?_; refine Z02 ?_; refine Z01 ?_; refine T.ret ?_; obtain ⟨rfl, rfl⟩ := ret2 H; exact Z7f rfl rfl rfl rfl (Res.tmp rfl) (Res.tmp rfl) Z0a ⟨rfl, rfl⟩
theorem Zgj {n0 : Net} {n0f3_b : Option Addr} {n0f3_n : Nat} {n0f3_c : Nat} (w : World) (h_n0f3 : RS w [] Z7o 3 n0f3_b n0f3_n n0f3_c n0.Arcs) {r0 : Bool} (H : Z7s n0 = some r0) : Fnc Try.prog 118 #[.agg #[.int .i64 n0.N, .int .i64 n0.S, .int .i64 n0.T, .slice n0f3_b n0f3_n n0f3_c]] w [] (fun v N => v = .bool r0 ∧ N = []) := by
 unfold Z7s at H; refine Fnc.enter (vs := [.agg #[.int .i64 n0.N, .int .i64 n0.S, .int .i64 n0.T, .slice n0f3_b n0f3_n n0f3_c]]) Try.func118 rfl rfl (Inv.refl w) ?_; refine Z0d ?_; refine Z04 (ll := [0, 1]) rfl ?_; refine Z1v rfl rfl rfl rfl ?_; intro b1; refine Z09 rfl rfl rfl rfl ?_; refine Z02 ?_; refine Z01 ?_; refine Z0d ?_; obtain ⟨⟨r3, r4⟩, e5, H⟩ := Z0k H; refine Z04 (ll := [0, 1, 2, 3, 4, 5, 6]) rfl ?_; refine Z0u rfl rfl rfl rfl Z2c mm0 rfl ?_; refine Z0o Zlv rfl rfl rfl rfl (fun wc hwc => Zme (n0 := n0) wc (h_n0f3.mono hwc) e5) ?_; rintro _ _ ⟨rfl, rfl⟩; refine Z06 rfl rfl rfl rfl ?_; refine TO.extract rfl rfl rfl rfl rfl ?_; refine TO.extract rfl rfl rfl rfl rfl ?_; refine Z09 rfl rfl rfl rfl ?_; refine Z09 rfl rfl rfl rfl ?_; refine Z02 ?_; refine Z01 ?_; refine Z0l (Z00 (t := 4) rfl Z0b) ?_; refine Z0d ?_; refine Z04 (ll := [0, 1]) rfl ?_; refine Z06 rfl rfl rfl rfl ?_; refine Z09 rfl rfl rfl rfl ?_; refine Z02 ?_; refine Z01 ?_; refine T.ret ?_; obtain rfl := ret1 H; exact Z12 rfl rfl rfl rfl (Res.tmp rfl) Z0a ⟨rfl, rfl⟩
theorem Z9s {n0 : Net} {n0f3_b : Option Addr} {n0f3_n : Nat} {n0f3_c : Nat} (w : World) (h_n0f3 : RS w [] Z7o 3 n0f3_b n0f3_n n0f3_c n0.Arcs) {r0 : Int} (H : Z5z n0 = some r0) : Fnc Try.prog 79 #[.agg #[.int .i64 n0.N, .int .i64 n0.S, .int .i64 n0.T, .slice n0f3_b n0f3_n n0f3_c]] w [] (fun v N => v = .int .i64 r0 ∧ N = []) := by
 unfold Z5z at H; refine Fnc.enter (vs := [.agg #[.int .i64 n0.N, .int .i64 n0.S, .int .i64 n0.T, .slice n0f3_b n0f3_n n0f3_c]]) Try.func79 rfl rfl (Inv.refl w) ?_; refine Z0d ?_; refine Z04 (ll := [0, 1]) rfl ?_; refine Z1v rfl rfl rfl rfl ?_; intro b1; refine Z09 rfl rfl rfl rfl ?_; refine Z02 ?_; refine Z01 ?_; refine Z0d ?_; refine Z0d ?_; obtain ⟨⟨⟩, e3, H⟩ := Z0k H; refine Z04 (ll := [0, 1]) rfl ?_; refine Z0o Zm2 rfl rfl rfl rfl (fun wc hwc => Zj2  wc  e3) ?_; rintro _ _ ⟨b4, b5, rfl, rfl⟩; refine Z06 rfl rfl rfl rfl ?_; refine Z02 ?_; refine Z01 ?_; refine Z25 (fun (u38 : Unit) => Z75 = some r0) (fun (u38 : Unit) => []) (fun (u38 : Unit) => []) ?_ ?_
 ·
  refine T.block ?_; refine T.loopU ?_; refine Za7 ?_; refine Z0d ?_; refine Z04 (ll := [0]) rfl ?_; refine Za6 (b := true) rfl rfl rfl rfl rfl rfl (by first | decide | rfl) ?_; refine Z02 ?_; refine Z01 ?_; refine Z0d ?_; refine Z26 rfl rfl ?_; refine T.skip ?_; refine Z01 ?_; refine Z0d ?_; refine T.block ?_; refine Z0d ?_; refine Z04 (ll := [0, 1, 2]) rfl ?_; refine Z9p (vs := [.func (.func 111) #[] #[], .int .i64 10]) rfl rfl rfl rfl rfl Z88 Z8a (by decide) rfl ?_; refine Z0z rfl rfl rfl Z87 ?_; intro b8; refine Z0t rfl rfl rfl rfl tk0 Z89 rfl rfl rfl ?_; refine Z02 ?_; refine Z01 ?_; refine Z0d ?_; obtain ⟨r10, e11, H⟩ := Z0k H; refine Z04 (ll := [0, 1, 2, 3, 4]) rfl ?_; refine Z05 rfl rfl rfl rfl Z68 ?_; refine Z0c rfl rfl rfl rfl Z9i mm0 rfl ?_; refine Z0u rfl rfl rfl rfl Z2c mm3 rfl ?_; refine Z4u Zm1 rfl rfl rfl rfl rfl (fun wc hwc => Zgo (n0 := n0) wc (h_n0f3.mono hwc) e11) ?_; rintro _ _ ⟨rfl, rfl⟩; refine TO.not rfl rfl rfl rfl ?_; refine Z02 ?_; refine Z01 ?_; refine Z0l (Z00 (t := 1) rfl (Z00 (t := 5) rfl (Z00 (t := 6) rfl (Z00 (t := 4) rfl (Z00 (t := 13) rfl Z0b))))) ?_; rcases Z0i H with ⟨g12, H⟩ | ⟨g12, H⟩
  · refine Z26 rfl g12 ?_; refine Z0d ?_; refine Z04 (ll := [0, 1, 2]) rfl ?_; refine Z05 rfl rfl rfl rfl Z67 ?_; refine Z0c rfl rfl rfl rfl Z9j mm0 rfl ?_; refine Z09 rfl rfl rfl rfl ?_; refine Z02 ?_; refine Z01 ?_; refine T.ret ?_; refine Z0n ?_; refine Z0h ?_; refine Z0h ?_; refine Z0n ?_; refine Z0h ?_; obtain rfl := ret1 H; exact Z12 rfl rfl rfl rfl (Res.tmp rfl) Z0a ⟨rfl, rfl⟩
  ·
   refine Z34 rfl (Bool.eq_false_iff.2 g12) ?_; refine T.skip ?_; refine Z0j ?_; refine Z01 ?_; refine Z04 (ll := [0, 1]) rfl ?_; refine Zd3 (r := 1) (by decide) rfl rfl rfl rfl rfl ?_; refine Z06 rfl rfl rfl rfl ?_; refine Z02 ?_; refine Zcp ?_; refine Za7 ?_; refine Z0d ?_; refine Z04 (ll := [0]) rfl ?_; refine Za6 (b := true) rfl rfl rfl rfl rfl rfl (by first | decide | rfl) ?_; refine Z02 ?_; refine Z01 ?_; refine Z0d ?_; refine Z26 rfl rfl ?_; refine T.skip ?_; refine Z01 ?_; refine Z0d ?_; refine T.block ?_; refine Z0d ?_; refine Z04 (ll := [0, 1, 2]) rfl ?_; refine Z9p (vs := [.func (.func 112) #[] #[], .int .i64 11]) rfl rfl rfl rfl rfl Z88 Z8a (by decide) rfl ?_; refine Z0z rfl rfl rfl Z87 ?_; intro b13; refine Z0t rfl rfl rfl rfl tk0 Z89 rfl rfl rfl ?_; refine Z02 ?_; refine Z01 ?_; refine Z0d ?_; obtain ⟨r15, e16, H⟩ := Z0k H; refine Z04 (ll := [0, 1, 2, 3, 4]) rfl ?_; refine Z05 rfl rfl rfl rfl Z68 ?_; refine Z0c rfl rfl rfl rfl Z9i mm0 rfl ?_; refine Z0u rfl rfl rfl rfl Z2c mm4 rfl ?_; refine Z4u Zm0 rfl rfl rfl rfl rfl (fun wc hwc => Zgn (n0 := n0) wc (h_n0f3.mono hwc) e16) ?_; rintro _ _ ⟨rfl, rfl⟩; refine TO.not rfl rfl rfl rfl ?_; refine Z02 ?_; refine Z01 ?_; rcases Z0i H with ⟨g17, H⟩ | ⟨g17, H⟩
   · refine Z26 rfl g17 ?_; refine Z0d ?_; refine Z04 (ll := [0, 1, 2]) rfl ?_; refine Z05 rfl rfl rfl rfl Z67 ?_; refine Z0c rfl rfl rfl rfl Z9j mm0 rfl ?_; refine Z09 rfl rfl rfl rfl ?_; refine Z02 ?_; refine Z01 ?_; refine Z0l (Z00 (t := 2) rfl Z0b) ?_; refine T.ret ?_; refine Z0n ?_; refine Z0h ?_; refine Z0h ?_; refine Z0n ?_; refine Z0h ?_; obtain rfl := ret1 H; exact Z12 rfl rfl rfl rfl (Res.tmp rfl) Z0a ⟨rfl, rfl⟩
   ·
    refine Z34 rfl (Bool.eq_false_iff.2 g17) ?_; refine T.skip ?_; refine Z0j ?_; refine Z01 ?_; refine Z0l (Z00 (t := 1) rfl (Z00 (t := 5) rfl (Z00 (t := 6) rfl Z0b))) ?_; refine Z04 (ll := [0, 1]) rfl ?_; refine Zd3 (r := 2) (by decide) rfl rfl rfl rfl rfl ?_; refine Z06 rfl rfl rfl rfl ?_; refine Z02 ?_; refine Zcp ?_; refine Za7 ?_; refine Z0d ?_; refine Z04 (ll := [0]) rfl ?_; refine Za6 (b := true) rfl rfl rfl rfl rfl rfl (by first | decide | rfl) ?_; refine Z02 ?_; refine Z01 ?_; refine Z0d ?_; refine Z26 rfl rfl ?_; refine T.skip ?_; refine Z01 ?_; refine Z0d ?_; refine T.block ?_; refine Z0d ?_; refine Z04 (ll := [0, 1, 2]) rfl ?_; refine Z9p (vs := [.func (.func 113) #[] #[], .int .i64 12]) rfl rfl rfl rfl rfl Z88 Z8a (by decide) rfl ?_; refine Z0z rfl rfl rfl Z87 ?_; intro b18; refine Z0t rfl rfl rfl rfl tk0 Z89 rfl rfl rfl ?_; refine Z02 ?_; refine Z01 ?_; refine Z0d ?_; obtain ⟨r20, e21, H⟩ := Z0k H; refine Z04 (ll := [0, 1, 2, 3, 4]) rfl ?_; refine Z05 rfl rfl rfl rfl Z68 ?_; refine Z0c rfl rfl rfl rfl Z9i mm0 rfl ?_; refine Z0u rfl rfl rfl rfl Z2c mm5 rfl ?_; refine Z4u Zlz rfl rfl rfl rfl rfl (fun wc hwc => Zgm (n0 := n0) wc (h_n0f3.mono hwc) e21) ?_; rintro _ _ ⟨rfl, rfl⟩; refine TO.not rfl rfl rfl rfl ?_; refine Z02 ?_; refine Z01 ?_; rcases Z0i H with ⟨g22, H⟩ | ⟨g22, H⟩
    · refine Z26 rfl g22 ?_; refine Z0d ?_; refine Z04 (ll := [0, 1, 2]) rfl ?_; refine Z05 rfl rfl rfl rfl Z67 ?_; refine Z0c rfl rfl rfl rfl Z9j mm0 rfl ?_; refine Z09 rfl rfl rfl rfl ?_; refine Z02 ?_; refine Z01 ?_; refine Z0l (Z00 (t := 2) rfl Z0b) ?_; refine T.ret ?_; refine Z0n ?_; refine Z0h ?_; refine Z0h ?_; refine Z0n ?_; refine Z0h ?_; obtain rfl := ret1 H; exact Z12 rfl rfl rfl rfl (Res.tmp rfl) Z0a ⟨rfl, rfl⟩
    ·
     refine Z34 rfl (Bool.eq_false_iff.2 g22) ?_; refine T.skip ?_; refine Z0j ?_; refine Z01 ?_; refine Z0l (Z00 (t := 1) rfl (Z00 (t := 5) rfl (Z00 (t := 6) rfl Z0b))) ?_; refine Z04 (ll := [0, 1]) rfl ?_; refine Zd3 (r := 3) (by decide) rfl rfl rfl rfl rfl ?_; refine Z06 rfl rfl rfl rfl ?_; refine Z02 ?_; refine Zcp ?_; refine Za7 ?_; refine Z0d ?_; refine Z04 (ll := [0]) rfl ?_; refine Za6 (b := true) rfl rfl rfl rfl rfl rfl (by first | decide | rfl) ?_; refine Z02 ?_; refine Z01 ?_; refine Z0d ?_; refine Z26 rfl rfl ?_; refine T.skip ?_; refine Z01 ?_; refine Z0d ?_; refine T.block ?_; refine Z0d ?_; refine Z04 (ll := [0, 1, 2]) rfl ?_; refine Z9p (vs := [.func (.func 121) #[] #[.pointer (some ⟨b4, 0, none⟩)], .int .i64 13]) rfl rfl rfl rfl rfl Z88 Z8a (by decide) rfl ?_; refine Z0z rfl rfl rfl Z87 ?_; intro b23; refine Z0t rfl rfl rfl rfl tk0 Z89 rfl rfl rfl ?_; refine Z02 ?_; refine Z01 ?_; refine Z0d ?_; obtain ⟨r25, e26, H⟩ := Z0k H; refine Z04 (ll := [0, 1, 2, 3, 4]) rfl ?_; refine Z05 rfl rfl rfl rfl Z68 ?_; refine Z0c rfl rfl rfl rfl Z9i mm0 rfl ?_; refine Z0u rfl rfl rfl rfl Z2c mm6 rfl ?_; refine Z4u Zgc rfl rfl rfl rfl rfl (fun wc hwc => Zbw (n0 := n0) wc (h_n0f3.mono hwc) (hwc.hb (cs := [.func (.func 116) #[] #[]]) mm4) e26) ?_; rintro _ _ ⟨rfl, rfl⟩; refine TO.not rfl rfl rfl rfl ?_; refine Z02 ?_; refine Z01 ?_; rcases Z0i H with ⟨g27, H⟩ | ⟨g27, H⟩
     · refine Z26 rfl g27 ?_; refine Z0d ?_; refine Z04 (ll := [0, 1, 2]) rfl ?_; refine Z05 rfl rfl rfl rfl Z67 ?_; refine Z0c rfl rfl rfl rfl Z9j mm0 rfl ?_; refine Z09 rfl rfl rfl rfl ?_; refine Z02 ?_; refine Z01 ?_; refine Z0l (Z00 (t := 2) rfl Z0b) ?_; refine T.ret ?_; refine Z0n ?_; refine Z0h ?_; refine Z0h ?_; refine Z0n ?_; refine Z0h ?_; obtain rfl := ret1 H; exact Z12 rfl rfl rfl rfl (Res.tmp rfl) Z0a ⟨rfl, rfl⟩
     ·
      refine Z34 rfl (Bool.eq_false_iff.2 g27) ?_; refine T.skip ?_; refine Z0j ?_; refine Z01 ?_; refine Z0l (Z00 (t := 1) rfl (Z00 (t := 5) rfl (Z00 (t := 6) rfl Z0b))) ?_; refine Z04 (ll := [0, 1]) rfl ?_; refine Zd3 (r := 4) (by decide) rfl rfl rfl rfl rfl ?_; refine Z06 rfl rfl rfl rfl ?_; refine Z02 ?_; refine Zcp ?_; refine Za7 ?_; refine Z0d ?_; refine Z04 (ll := [0]) rfl ?_; refine Za6 (b := true) rfl rfl rfl rfl rfl rfl (by first | decide | rfl) ?_; refine Z02 ?_; refine Z01 ?_; refine Z0d ?_; refine Z26 rfl rfl ?_; refine T.skip ?_; refine Z01 ?_; refine Z0d ?_; refine T.block ?_; refine Z0d ?_; refine Z04 (ll := [0, 1, 2]) rfl ?_; refine Z9p (vs := [.func (.func 121) #[] #[.pointer (some ⟨b5, 0, none⟩)], .int .i64 14]) rfl rfl rfl rfl rfl Z88 Z8a (by decide) rfl ?_; refine Z0z rfl rfl rfl Z87 ?_; intro b28; refine Z0t rfl rfl rfl rfl tk0 Z89 rfl rfl rfl ?_; refine Z02 ?_; refine Z01 ?_; refine Z0d ?_; obtain ⟨r30, e31, H⟩ := Z0k H; refine Z04 (ll := [0, 1, 2, 3, 4]) rfl ?_; refine Z05 rfl rfl rfl rfl Z68 ?_; refine Z0c rfl rfl rfl rfl Z9i mm0 rfl ?_; refine Z0u rfl rfl rfl rfl Z2c mm7 rfl ?_; refine Z4u Zgc rfl rfl rfl rfl rfl (fun wc hwc => Zbv (n0 := n0) wc (h_n0f3.mono hwc) (hwc.hb (cs := [.func (.func 117) #[] #[]]) mm6) e31) ?_; rintro _ _ ⟨rfl, rfl⟩; refine TO.not rfl rfl rfl rfl ?_; refine Z02 ?_; refine Z01 ?_; rcases Z0i H with ⟨g32, H⟩ | ⟨g32, H⟩
      · refine Z26 rfl g32 ?_; refine Z0d ?_; refine Z04 (ll := [0, 1, 2]) rfl ?_; refine Z05 rfl rfl rfl rfl Z67 ?_; refine Z0c rfl rfl rfl rfl Z9j mm0 rfl ?_; refine Z09 rfl rfl rfl rfl ?_; refine Z02 ?_; refine Z01 ?_; refine Z0l (Z00 (t := 2) rfl Z0b) ?_; refine T.ret ?_; refine Z0n ?_; refine Z0h ?_; refine Z0h ?_; refine Z0n ?_; refine Z0h ?_; obtain rfl := ret1 H; exact Z12 rfl rfl rfl rfl (Res.tmp rfl) Z0a ⟨rfl, rfl⟩
      ·
       refine Z34 rfl (Bool.eq_false_iff.2 g32) ?_; refine T.skip ?_; refine Z0j ?_; refine Z01 ?_; refine Z0l (Z00 (t := 1) rfl (Z00 (t := 5) rfl (Z00 (t := 6) rfl Z0b))) ?_; refine Z04 (ll := [0, 1]) rfl ?_; refine Zd3 (r := 5) (by decide) rfl rfl rfl rfl rfl ?_; refine Z06 rfl rfl rfl rfl ?_; refine Z02 ?_; refine Zcp ?_; refine Za7 ?_; refine Z0d ?_; refine Z04 (ll := [0]) rfl ?_; refine Za6 (b := true) rfl rfl rfl rfl rfl rfl (by first | decide | rfl) ?_; refine Z02 ?_; refine Z01 ?_; refine Z0d ?_; refine Z26 rfl rfl ?_; refine T.skip ?_; refine Z01 ?_; refine Z0d ?_; refine T.block ?_; refine Z0d ?_; refine Z04 (ll := [0, 1, 2]) rfl ?_; refine Z9p (vs := [.func (.func 118) #[] #[], .int .i64 15]) rfl rfl rfl rfl rfl Z88 Z8a (by decide) rfl ?_; refine Z0z rfl rfl rfl Z87 ?_; intro b33; refine Z0t rfl rfl rfl rfl tk0 Z89 rfl rfl rfl ?_; refine Z02 ?_; refine Z01 ?_; refine Z0d ?_; obtain ⟨r35, e36, H⟩ := Z0k H; refine Z04 (ll := [0, 1, 2, 3, 4]) rfl ?_; refine Z05 rfl rfl rfl rfl Z68 ?_; refine Z0c rfl rfl rfl rfl Z9i mm0 rfl ?_; refine Z0u rfl rfl rfl rfl Z2c mm8 rfl ?_; refine Z4u Zlw rfl rfl rfl rfl rfl (fun wc hwc => Zgj (n0 := n0) wc (h_n0f3.mono hwc) e36) ?_; rintro _ _ ⟨rfl, rfl⟩; refine TO.not rfl rfl rfl rfl ?_; refine Z02 ?_; refine Z01 ?_; rcases Z0i H with ⟨g37, H⟩ | ⟨g37, H⟩
       · refine Z26 rfl g37 ?_; refine Z0d ?_; refine Z04 (ll := [0, 1, 2]) rfl ?_; refine Z05 rfl rfl rfl rfl Z67 ?_; refine Z0c rfl rfl rfl rfl Z9j mm0 rfl ?_; refine Z09 rfl rfl rfl rfl ?_; refine Z02 ?_; refine Z01 ?_; refine Z0l (Z00 (t := 2) rfl Z0b) ?_; refine T.ret ?_; refine Z0n ?_; refine Z0h ?_; refine Z0h ?_; refine Z0n ?_; refine Z0h ?_; obtain rfl := ret1 H; exact Z12 rfl rfl rfl rfl (Res.tmp rfl) Z0a ⟨rfl, rfl⟩
       · refine Z34 rfl (Bool.eq_false_iff.2 g37) ?_; refine T.skip ?_; refine Z0j ?_; refine Z01 ?_; refine Z0l (Z00 (t := 1) rfl (Z00 (t := 5) rfl (Z00 (t := 6) rfl Z0b))) ?_; refine Z04 (ll := [0, 1]) rfl ?_; refine Zd3 (r := 6) (by decide) rfl rfl rfl rfl rfl ?_; refine Z06 rfl rfl rfl rfl ?_; refine Z02 ?_; refine Zcp ?_; refine Za7 ?_; refine Z0d ?_; refine Z04 (ll := [0]) rfl ?_; refine Za6 (b := false) rfl rfl rfl rfl rfl rfl (by first | decide | rfl) ?_; refine Z02 ?_; refine Z01 ?_; refine Z0d ?_; refine Z34 rfl rfl ?_; refine T.exit ?_; refine Z0m ?_; refine Z0m ?_; refine Z13 ?_; exact Z2b () H Z0b Z0a
 · rintro u38 H; unfold Z75 at H; refine Z0d ?_; refine Z04 (ll := [0]) rfl ?_; refine Z09 rfl rfl rfl rfl ?_; refine Z02 ?_; refine Z01 ?_; refine T.ret ?_; obtain rfl := ret1 H; exact Z12 rfl rfl rfl rfl (Res.tmp rfl) Z0a ⟨rfl, rfl⟩
theorem Zgq {n0 : Net} {n0f3_b : Option Addr} {n0f3_n : Nat} {n0f3_c : Nat} (w : World) (h_n0f3 : RS w [] Z7o 3 n0f3_b n0f3_n n0f3_c n0.Arcs) {r0 : List Int} (H : Z6j n0 = some r0) : Fnc Try.prog 85 #[.agg #[.int .i64 n0.N, .int .i64 n0.S, .int .i64 n0.T, .slice n0f3_b n0f3_n n0f3_c]] w [] (fun v N => ∃ (ob_0 : Option Nat) (n_0 : Nat) (c_0 : Nat) (j_0 : List Value), v = .slice (sb ob_0) n_0 c_0 ∧ N = [(ob_0, .cells (arr (intC .i64) r0 j_0).toArray 3 (0, 0))] ∧ r0.length = n_0 ∧ n_0 ≤ c_0 ∧ j_0.length = (c_0 - n_0) * 1 ∧ (ob_0 = none → c_0 = 0)) := by
 unfold Z6j at H; refine Fnc.enter (vs := [.agg #[.int .i64 n0.N, .int .i64 n0.S, .int .i64 n0.T, .slice n0f3_b n0f3_n n0f3_c]]) Try.func85 rfl rfl (Inv.refl w) ?_; refine Z0d ?_; refine Z04 (ll := [0, 1]) rfl ?_; refine Z1v rfl rfl rfl rfl ?_; intro b1; refine Z09 rfl rfl rfl rfl ?_; refine Z02 ?_; refine Z01 ?_; refine Z0d ?_; obtain ⟨g3, H⟩ := Z0e H; obtain ⟨g4, H⟩ := Z0e H; refine Z04 (ll := [0, 1, 2, 3, 4]) rfl ?_; refine Z05 rfl rfl rfl rfl Z2t ?_; refine Z0c rfl rfl rfl rfl Z0w mm0 rfl ?_; refine Z11 g3 rfl rfl rfl rfl rfl ?_; refine Zce g4 rfl rfl rfl rfl rfl Z1x Z1p Zcb Zcd rfl ?_; intro b5; refine Z09 rfl rfl rfl rfl ?_; refine Z02 ?_; refine Z01 ?_; refine Z0d ?_; refine Z0d ?_; refine Z04 (ll := [0, 1, 2, 3]) rfl ?_; refine Z05 rfl rfl rfl rfl Z43 ?_; refine Z0c rfl rfl rfl rfl Z6s mm1 rfl ?_; refine Z1f (xs := n0.Arcs) h_n0f3.len rfl rfl rfl rfl rfl Z37 ?_; refine Z06 rfl rfl rfl rfl ?_; refine Z02 ?_; refine Z01 ?_; refine Z25 (fun (xs25 : List Int) => Z5x n0 xs25 = some r0 ∧ xs25.length = (n0.N + 1).toNat) (fun (xs25 : List Int) => [(1, .pointer (some ⟨b1, 0, none⟩)), (3, .slice (some ⟨b5, 0, none⟩) ((n0.N + 1).toNat) ((n0.N + 1).toNat))]) (fun (xs25 : List Int) => [(some b1, .cells #[.int .i64 n0.N, .int .i64 n0.S, .int .i64 n0.T, .slice n0f3_b n0f3_n n0f3_c] 24 (0, 0)), (some b5, .cells (arr (intC .i64) xs25 ([])).toArray 3 (0, 0))]) ?_ ?_
 ·
  refine T.block ?_; obtain ⟨o_1, e_1, K_1⟩ := Z0k H; refine Z81 (fun (m_1 : Nat) (xs7 : List Int) (x9 : Int) => Z2j (fun s => Z4t n0 s.1 s.2) m_1 (xs7, x9) = some o_1 ∧ xs7.length = (n0.N + 1).toNat) (fun (m_1 : Nat) (xs7 : List Int) (x9 : Int) => [(1, .pointer (some ⟨b1, 0, none⟩)), (3, .slice (some ⟨b5, 0, none⟩) ((n0.N + 1).toNat) ((n0.N + 1).toNat)), (12, .slice n0f3_b n0f3_n n0f3_c), (13, .int .i64 (n0.Arcs.length : Int)), (14, .int .i64 x9)]) (fun (m_1 : Nat) (xs7 : List Int) (x9 : Int) => [(some b1, .cells #[.int .i64 n0.N, .int .i64 n0.S, .int .i64 n0.T, .slice n0f3_b n0f3_n n0f3_c] 24 (0, 0)), (some b5, .cells (arr (intC .i64) xs7 ([])).toArray 3 (0, 0))]) (fun (m_1 : Nat) (xs7 : List Int) (x9 : Int) => m_1) Z4w (List.replicate ((n0.N + 1).toNat) (0 : Int)) 0 ⟨e_1, List.length_replicate⟩ (Z00 rfl (Z00 rfl (Z00 rfl (Z00 rfl (Z00 rfl Z0b))))) (Z03 tk1 (Z03 tk0 Z0a)) ?_; rintro m_1 xs7 x9 ⟨H, hn8⟩; obtain ⟨n_1, r_1, rfl, H, C_1⟩ := Z1o H; have H : Z4t n0 xs7 x9 = some r_1 := H; unfold Z4t at H; refine Z0d ?_; refine Z04 (ll := [0]) rfl ?_; refine Z0p rfl rfl rfl rfl rfl rfl ?_; refine Z02 ?_; refine Z01 ?_; refine Z0d ?_; rcases Z0i H with ⟨g10, H⟩ | ⟨g10, H⟩
  ·
   refine Z15 rfl g10 ?_; refine T.skip ?_; refine Z01 ?_; refine Z0d ?_; refine T.block ?_; refine Z0d ?_; obtain ⟨g11, H⟩ := Z0e H; refine Z04 (ll := [0, 1, 2, 3]) rfl ?_; refine Z2e h_n0f3 g11 rfl rfl rfl rfl rfl Z37 Z4g ?_; refine Zax (cs := [.int .i64 ((n0.Arcs.getD x9.toNat default).fr), .int .i64 ((n0.Arcs.getD x9.toNat default).to), .int .i64 ((n0.Arcs.getD x9.toNat default).cap)]) default h_n0f3 g11 rfl rfl rfl rfl rfl Z7n ?_; refine Z0z rfl rfl rfl Z9h ?_; intro b12; refine Z0t rfl rfl rfl rfl tk0 Z4g rfl rfl rfl ?_; refine Z02 ?_; refine Z01 ?_; refine Z0d ?_; refine Z04 (ll := [0, 1, 2, 3, 4]) rfl ?_; refine Z05 rfl rfl rfl rfl Z5a ?_; refine Z0c rfl rfl rfl rfl Z0w mm0 rfl ?_; refine Z05 rfl rfl rfl rfl Z63 ?_; refine Z0c rfl rfl rfl rfl Z0w mm0 rfl ?_; refine Z0p rfl rfl rfl rfl rfl rfl ?_; refine Z02 ?_; refine Z01 ?_; rcases Z0i H with ⟨g14, H⟩ | ⟨g14, H⟩
   · refine Z15 rfl g14 ?_; refine Z0d ?_; obtain ⟨g15, H⟩ := Z0e H; obtain ⟨g16, H⟩ := Z0e H; obtain ⟨g17, H⟩ := Z0e H; obtain ⟨g18, H⟩ := Z0e H; refine Z04 (ll := [0, 1, 2, 3, 4, 5, 6, 7, 8]) rfl ?_; refine Z06 rfl rfl rfl rfl ?_; refine Z05 rfl rfl rfl rfl Z5a ?_; refine Z0c rfl rfl rfl rfl Z0w mm0 rfl ?_; refine Z11 g15 rfl rfl rfl rfl rfl ?_; refine Z90 hn8 g16 rfl rfl rfl rfl rfl Z1x Z1p ?_; refine Zfj g16 rfl rfl rfl rfl Z0w mm2 ?_; refine Z11 g17 rfl rfl rfl rfl rfl ?_; refine Z90 hn8 g18 rfl rfl rfl rfl rfl Z1x Z1p ?_; refine Z95 g18 rfl rfl rfl rfl tk2 Z1p ?_; refine Z02 ?_; refine Z01 ?_; refine Z0l (Z00 (t := 1) rfl (Z00 (t := 3) rfl (Z00 (t := 12) rfl (Z00 (t := 13) rfl (Z00 (t := 14) rfl (Z00 (t := 5) rfl Z0b)))))) ?_; obtain ⟨g19, H⟩ := Z0e H; obtain ⟨g20, H⟩ := Z0e H; obtain ⟨g21, H⟩ := Z0e H; obtain ⟨g22, H⟩ := Z0e H; refine Z04 (ll := [0, 1, 2, 3, 4, 5, 6, 7, 8]) rfl ?_; refine Z06 rfl rfl rfl rfl ?_; refine Z05 rfl rfl rfl rfl Z63 ?_; refine Z0c rfl rfl rfl rfl Z0w mm1 rfl ?_; refine Z11 g19 rfl rfl rfl rfl rfl ?_; refine Z90 (List.length_set.trans hn8) g20 rfl rfl rfl rfl rfl Z1x Z1p ?_; refine Zfj g20 rfl rfl rfl rfl Z0w mm0 ?_; refine Z11 g21 rfl rfl rfl rfl rfl ?_; refine Z90 (List.length_set.trans hn8) g22 rfl rfl rfl rfl rfl Z1x Z1p ?_; refine Z95 g22 rfl rfl rfl rfl tk0 Z1p ?_; refine Z02 ?_; refine Z0j ?_; refine Z01 ?_; refine Z0l (Z00 (t := 1) rfl (Z00 (t := 3) rfl (Z00 (t := 12) rfl (Z00 (t := 13) rfl (Z00 (t := 14) rfl Z0b))))) ?_; obtain ⟨g23, H⟩ := Z0e H; refine Z04 (ll := [0, 1]) rfl ?_; refine Z11 g23 rfl rfl rfl rfl rfl ?_; refine Z06 rfl rfl rfl rfl ?_; refine Z02 ?_; have H := Z1c H C_1; exact Z3y n_1 ((xs7.set (((n0.Arcs.getD x9.toNat default).fr) + 1).toNat ((xs7.getD (((n0.Arcs.getD x9.toNat default).fr) + 1).toNat 0) + 1)).set (((n0.Arcs.getD x9.toNat default).to) + 1).toNat (((xs7.set (((n0.Arcs.getD x9.toNat default).fr) + 1).toNat ((xs7.getD (((n0.Arcs.getD x9.toNat default).fr) + 1).toNat 0) + 1)).getD (((n0.Arcs.getD x9.toNat default).to) + 1).toNat 0) + 1)) (x9 + 1) ⟨H, (List.length_set.trans (List.length_set.trans hn8))⟩ (Nat.lt_succ_self _) (Z00 rfl (Z00 rfl (Z00 rfl (Z00 rfl (Z00 rfl Z0b))))) (Z03 tk2 (Z03 tk0 Z0a))
   · refine Z16 rfl g14 ?_; refine T.skip ?_; refine Z0j ?_; refine Z01 ?_; refine Z0l (Z00 (t := 1) rfl (Z00 (t := 3) rfl (Z00 (t := 12) rfl (Z00 (t := 13) rfl (Z00 (t := 14) rfl Z0b))))) ?_; obtain ⟨g24, H⟩ := Z0e H; refine Z04 (ll := [0, 1]) rfl ?_; refine Z11 g24 rfl rfl rfl rfl rfl ?_; refine Z06 rfl rfl rfl rfl ?_; refine Z02 ?_; have H := Z1c H C_1; exact Z3y n_1 xs7 (x9 + 1) ⟨H, hn8⟩ (Nat.lt_succ_self _) (Z00 rfl (Z00 rfl (Z00 rfl (Z00 rfl (Z00 rfl Z0b))))) (Z03 tk1 (Z03 tk1 Z0a))
  · refine Z16 rfl g10 ?_; refine T.exit ?_; refine Z0m ?_; have H := Z0v H C_1 ▸ K_1; refine Z0m ?_; refine Z13 ?_; exact Z2b xs7 ⟨H, hn8⟩ (Z00 rfl (Z00 rfl Z0b)) (Z03 tk0 (Z03 tk0 Z0a))
 ·
  rintro xs25 ⟨H, hn26⟩; unfold Z5x at H; refine Z0d ?_; refine Z0d ?_; refine Z04 (ll := [0, 1, 2]) rfl ?_; refine Z05 rfl rfl rfl rfl Z2t ?_; refine Z0c rfl rfl rfl rfl Z0w mm0 rfl ?_; refine Z06 rfl rfl rfl rfl ?_; refine Z02 ?_; refine Z01 ?_; refine Z25 (fun (xs37 : List Int) => Z5w xs37 = some r0 ∧ xs37.length = (n0.N + 1).toNat) (fun (xs37 : List Int) => [(3, .slice (some ⟨b5, 0, none⟩) ((n0.N + 1).toNat) ((n0.N + 1).toNat))]) (fun (xs37 : List Int) => [(some b5, .cells (arr (intC .i64) xs37 ([])).toArray 3 (0, 0))]) ?_ ?_
  ·
   refine T.block ?_; obtain ⟨o_3, e_3, K_3⟩ := Z0k H; refine Z81 (fun (m_3 : Nat) (xs27 : List Int) (x29 : Int) => Z2j (fun s => Z4s n0 s.1 s.2) m_3 (xs27, x29) = some o_3 ∧ xs27.length = (n0.N + 1).toNat) (fun (m_3 : Nat) (xs27 : List Int) (x29 : Int) => [(3, .slice (some ⟨b5, 0, none⟩) ((n0.N + 1).toNat) ((n0.N + 1).toNat)), (41, .int .i64 n0.N), (42, .int .i64 x29)]) (fun (m_3 : Nat) (xs27 : List Int) (x29 : Int) => [(some b5, .cells (arr (intC .i64) xs27 ([])).toArray 3 (0, 0))]) (fun (m_3 : Nat) (xs27 : List Int) (x29 : Int) => m_3) Z4w xs25 0 ⟨e_3, hn26⟩ (Z00 rfl (Z00 rfl (Z00 rfl Z0b))) (Z03 tk1 Z0a) ?_; rintro m_3 xs27 x29 ⟨H, hn28⟩; obtain ⟨n_3, r_3, rfl, H, C_3⟩ := Z1o H; have H : Z4s n0 xs27 x29 = some r_3 := H; unfold Z4s at H; refine Z0d ?_; refine Z04 (ll := [0]) rfl ?_; refine Z0p rfl rfl rfl rfl rfl rfl ?_; refine Z02 ?_; refine Z01 ?_; refine Z0d ?_; rcases Z0i H with ⟨g30, H⟩ | ⟨g30, H⟩
   ·
    refine Z15 rfl g30 ?_; refine T.skip ?_; refine Z01 ?_; refine Z0d ?_; refine T.block ?_; refine Z0d ?_; refine Z04 (ll := [0, 1]) rfl ?_; refine Z06 rfl rfl rfl rfl ?_; refine Z09 rfl rfl rfl rfl ?_; refine Z02 ?_; refine Z01 ?_; obtain ⟨g31, H⟩ := Z0e H; obtain ⟨g32, H⟩ := Z0e H; obtain ⟨g33, H⟩ := Z0e H; obtain ⟨g34, H⟩ := Z0e H; obtain ⟨g35, H⟩ := Z0e H; apply Z82 [(45, _), (46, _), (47, _), (48, _), (49, _), (50, _), (51, _), (52, _), (53, _)]
    · exact Z6a
    · kernel_rfl
    · kernel_rfl
    · exact rfl
    · exact rfl
    ·
     refine ⟨?_, ?_, ?_, ?_, ?_, ?_, ?_, ?_, ?_, trivial⟩
     · intro Es; refine Z06 rfl rfl rfl rfl ?_; exact Z02 (Z3d rfl (Z07 _))
     · intro Es; refine Z06 rfl rfl rfl rfl ?_; exact Z02 (Z3d rfl (Z07 _))
     · intro Es; refine Z11 g31 rfl rfl rfl rfl rfl ?_; exact Z02 (Z3d rfl (Z07 _))
     · intro Es; refine Z90 hn28 g32 rfl rfl rfl rfl rfl Z1x Z1p ?_; exact Z02 (Z3d rfl (Z07 _))
     · intro Es; refine Zfj g32 rfl rfl rfl rfl Z0w mm0 ?_; exact Z02 (Z3d rfl (Z07 _))
     · intro Es; refine Z06 rfl rfl rfl rfl ?_; exact Z02 (Z3d rfl (Z07 _))
     · intro Es; refine Z06 rfl rfl rfl rfl ?_; exact Z02 (Z3d rfl (Z07 _))
     · intro Es; refine Z90 hn28 g33 rfl rfl rfl rfl rfl Z1x Z1p ?_; exact Z02 (Z3d rfl (Z07 _))
     · intro Es; refine Zfj g33 rfl rfl rfl rfl Z0w mm0 ?_; exact Z02 (Z3d rfl (Z07 _))
    refine Z11 g34 rfl rfl rfl rfl rfl ?_; refine Z90 hn28 g35 rfl rfl rfl rfl rfl Z1x Z1p ?_; refine Z95 g35 rfl rfl rfl rfl tk0 Z1p ?_; refine Z02 ?_; refine Z0j ?_; refine Z01 ?_; refine Z0l (Z00 (t := 3) rfl (Z00 (t := 41) rfl (Z00 (t := 42) rfl Z0b))) ?_; obtain ⟨g36, H⟩ := Z0e H; refine Z04 (ll := [0, 1]) rfl ?_; refine Z11 g36 rfl rfl rfl rfl rfl ?_; refine Z06 rfl rfl rfl rfl ?_; refine Z02 ?_; have H := Z1c H C_3; exact Z3y n_3 (xs27.set (x29 + 1).toNat ((xs27.getD (x29 + 1).toNat 0) + (xs27.getD x29.toNat 0))) (x29 + 1) ⟨H, (List.length_set.trans hn28)⟩ (Nat.lt_succ_self _) (Z00 rfl (Z00 rfl (Z00 rfl Z0b))) (Z03 tk0 Z0a)
   · refine Z16 rfl g30 ?_; refine T.exit ?_; refine Z0m ?_; have H := Z0v H C_3 ▸ K_3; refine Z0m ?_; refine Z13 ?_; exact Z2b xs27 ⟨H, hn28⟩ (Z00 rfl Z0b) (Z03 tk0 Z0a)
  · rintro xs37 ⟨H, hn38⟩; unfold Z5w at H; refine Z0d ?_; refine Z04 (ll := [0, 1]) rfl ?_; refine Z06 rfl rfl rfl rfl ?_; refine Z09 rfl rfl rfl rfl ?_; refine Z02 ?_; refine Z01 ?_; refine T.ret ?_; obtain rfl := ret1 H; exact Z12 rfl rfl rfl rfl (Res.tmp rfl) (Z03 tk0 Z0a) ⟨(some b5), ((n0.N + 1).toNat), ((n0.N + 1).toNat), ([]), rfl, rfl, hn38, (Nat.le_refl _), (Z30 _ _), Z49⟩
theorem Z8n {s0 : List Int} {s0_b : Option Addr} {s0_n : Nat} {s0_c : Nat} (w : World) (h_s0 : RS w [] (intC .i64) 1 s0_b s0_n s0_c s0) {r0 : List Int} (H : Z2l s0 = some r0) : Fnc Try.prog 65 #[.slice s0_b s0_n s0_c] w [] (fun v N => ∃ (ob_0 : Option Nat) (n_0 : Nat) (c_0 : Nat) (j_0 : List Value), v = .slice (sb ob_0) n_0 c_0 ∧ N = [(ob_0, .cells (arr (intC .i64) r0 j_0).toArray 3 (0, 0))] ∧ r0.length = n_0 ∧ n_0 ≤ c_0 ∧ j_0.length = (c_0 - n_0) * 1 ∧ (ob_0 = none → c_0 = 0)) := by
 unfold Z2l at H; refine Fnc.enter (vs := [.slice s0_b s0_n s0_c]) Try.func65 rfl rfl (Inv.refl w) ?_; refine Z0d ?_; refine Z04 (ll := [0]) rfl ?_; refine Z09 rfl rfl rfl rfl ?_; refine Z02 ?_; refine Z01 ?_; refine Z0d ?_; refine Z0d ?_; by_cases g1 : s0_b = none
 ·
  have hx : s0 = [] := List.eq_nil_of_length_eq_zero (by rw [h_s0.len, h_s0.ro.nil g1]); have H : (some ([])) = some r0 := by
   simp only [hx] at H ⊢; first | exact H | exact (Z0e H).2
  refine Z04 (ll := [0, 1]) rfl ?_; refine Z06 rfl rfl rfl rfl ?_; refine Zdu rfl rfl rfl rfl rfl Z1x ?_; refine Z0r (t := 4) (b' := true) rfl (by rw [g1]; rfl) ?_; refine Z02 ?_; refine Z01 ?_; refine Z26 rfl rfl ?_; refine Z0d ?_; refine Z04 (ll := [0]) rfl ?_; refine Z09 rfl rfl rfl rfl ?_; refine Z02 ?_; refine Z01 ?_; refine T.ret ?_; refine Z0h ?_; obtain rfl := ret1 H; exact Z12 rfl rfl rfl rfl (Res.tmp rfl) (Pick.none Z0a) ⟨none, 0, 0, ([]), rfl, rfl, rfl, (Nat.le_refl _), (Z30 0 _), (fun _ => rfl)⟩
 · refine Z04 (ll := [0, 1]) rfl ?_; refine Z06 rfl rfl rfl rfl ?_; refine Zdu rfl rfl rfl rfl rfl Z1x ?_; refine Z0r (t := 4) (b' := false) rfl (Option.isNone_eq_false_iff.2 (Option.isSome_iff_ne_none.2 g1)) ?_; refine Z02 ?_; refine Z01 ?_; refine Z34 rfl rfl ?_; refine T.skip ?_; refine Z01 ?_; refine Z0d ?_; obtain ⟨g4, H⟩ := Z0e H; refine Z04 (ll := [0, 1, 2, 3]) rfl ?_; refine Zdi rfl rfl rfl Z1x Z1p ?_; intro b2; refine Z06 rfl rfl rfl rfl ?_; refine Zix (f := (intC .i64)) (s := 1) (xs := ([] : List Int)) (ob := some b2) (j := ([])) (ys := s0) (fun _ => rfl) (fun _ => rfl) Znw g4 rfl rfl rfl rfl rfl tk0 rfl (Nat.le_refl _) (Z30 0 _) Z49 (fun wc hwc => (h_s0.mono hwc)) ?_; intro ob5 c6 j7 hc8 hj9 hz10; refine Z09 rfl rfl rfl rfl ?_; refine Z02 ?_; refine Z01 ?_; refine T.ret ?_; obtain rfl := ret1 H; exact Z12 rfl rfl rfl rfl (Res.tmp rfl) (Z03 tk0 Z0a) ⟨ob5, (0 + s0_n), c6, j7, rfl, rfl, (Zmv h_s0.len), hc8, hj9, hz10⟩
theorem Zd4 {from0 : Int} {to1 : Int} {most2 : Int} {arc3 : Int} {back4 : Bool} {c5 : List Int} {c6 : Csr} {c5_k : Nat} {c5_o : Option Nat} {c5_n : Nat} {c5_c : Nat} {c5_j : List Value} {c6_k : Nat} {c6f3_b : Option Addr} {c6f3_n : Nat} {c6f3_c : Nat} {c6f4_o : Option Nat} {c6f4_n : Nat} {c6f4_c : Nat} {c6f4_j : List Value} {c6f5_b : Option Addr} {c6f5_n : Nat} {c6f5_c : Nat} {c6f6_o : Option Nat} {c6f6_n : Nat} {c6f6_c : Nat} {c6f6_j : List Value} {c6f7_o : Option Nat} {c6f7_n : Nat} {c6f7_c : Nat} {c6f7_j : List Value} {c6f8_o : Option Nat} {c6f8_n : Nat} {c6f8_c : Nat} {c6f8_j : List Value} (w : World) (hin : Inv w (([(some c5_k, .cells #[.slice (sb c5_o) c5_n c5_c] 27 (0, 0)), (c5_o, .cells (arr (intC .i64) c5 c5_j).toArray 3 (0, 0)), (some c6_k, .cells #[.int .i64 c6.N, .int .i64 c6.S, .int .i64 c6.T, .slice c6f3_b c6f3_n c6f3_c, .slice (sb c6f4_o) c6f4_n c6f4_c, .slice c6f5_b c6f5_n c6f5_c, .slice (sb c6f6_o) c6f6_n c6f6_c, .slice (sb c6f7_o) c6f7_n c6f7_c, .slice (sb c6f8_o) c6f8_n c6f8_c] 32 (0, 0)), (c6f4_o, .cells (arr (intC .i64) c6.Head c6f4_j).toArray 3 (0, 0)), (c6f6_o, .cells (arr (intC .i64) c6.Cap c6f6_j).toArray 2 (0, 0)), (c6f7_o, .cells (arr (intC .i64) c6.Arc c6f7_j).toArray 3 (0, 0)), (c6f8_o, .cells (arr boolC c6.Back c6f8_j).toArray 4 (0, 0))] : Heap).filterMap Prod.fst) w [(some c5_k, .cells #[.slice (sb c5_o) c5_n c5_c] 27 (0, 0)), (c5_o, .cells (arr (intC .i64) c5 c5_j).toArray 3 (0, 0)), (some c6_k, .cells #[.int .i64 c6.N, .int .i64 c6.S, .int .i64 c6.T, .slice c6f3_b c6f3_n c6f3_c, .slice (sb c6f4_o) c6f4_n c6f4_c, .slice c6f5_b c6f5_n c6f5_c, .slice (sb c6f6_o) c6f6_n c6f6_c, .slice (sb c6f7_o) c6f7_n c6f7_c, .slice (sb c6f8_o) c6f8_n c6f8_c] 32 (0, 0)), (c6f4_o, .cells (arr (intC .i64) c6.Head c6f4_j).toArray 3 (0, 0)), (c6f6_o, .cells (arr (intC .i64) c6.Cap c6f6_j).toArray 2 (0, 0)), (c6f7_o, .cells (arr (intC .i64) c6.Arc c6f7_j).toArray 3 (0, 0)), (c6f8_o, .cells (arr boolC c6.Back c6f8_j).toArray 4 (0, 0))]) (h_c5_l : c5.length = c5_n) (h_c5_c : c5_n ≤ c5_c) (h_c5_j : c5_j.length = (c5_c - c5_n) * 1) (h_c5_z : (c5_o = none → c5_c = 0)) (h_c6f3 : RS w (([(some c5_k, .cells #[.slice (sb c5_o) c5_n c5_c] 27 (0, 0)), (c5_o, .cells (arr (intC .i64) c5 c5_j).toArray 3 (0, 0)), (some c6_k, .cells #[.int .i64 c6.N, .int .i64 c6.S, .int .i64 c6.T, .slice c6f3_b c6f3_n c6f3_c, .slice (sb c6f4_o) c6f4_n c6f4_c, .slice c6f5_b c6f5_n c6f5_c, .slice (sb c6f6_o) c6f6_n c6f6_c, .slice (sb c6f7_o) c6f7_n c6f7_c, .slice (sb c6f8_o) c6f8_n c6f8_c] 32 (0, 0)), (c6f4_o, .cells (arr (intC .i64) c6.Head c6f4_j).toArray 3 (0, 0)), (c6f6_o, .cells (arr (intC .i64) c6.Cap c6f6_j).toArray 2 (0, 0)), (c6f7_o, .cells (arr (intC .i64) c6.Arc c6f7_j).toArray 3 (0, 0)), (c6f8_o, .cells (arr boolC c6.Back c6f8_j).toArray 4 (0, 0))] : Heap).filterMap Prod.fst) (intC .i64) 1 c6f3_b c6f3_n c6f3_c c6.First) (h_c6f4_l : c6.Head.length = c6f4_n) (h_c6f4_c : c6f4_n ≤ c6f4_c) (h_c6f4_j : c6f4_j.length = (c6f4_c - c6f4_n) * 1) (h_c6f4_z : (c6f4_o = none → c6f4_c = 0)) (h_c6f5 : RS w (([(some c5_k, .cells #[.slice (sb c5_o) c5_n c5_c] 27 (0, 0)), (c5_o, .cells (arr (intC .i64) c5 c5_j).toArray 3 (0, 0)), (some c6_k, .cells #[.int .i64 c6.N, .int .i64 c6.S, .int .i64 c6.T, .slice c6f3_b c6f3_n c6f3_c, .slice (sb c6f4_o) c6f4_n c6f4_c, .slice c6f5_b c6f5_n c6f5_c, .slice (sb c6f6_o) c6f6_n c6f6_c, .slice (sb c6f7_o) c6f7_n c6f7_c, .slice (sb c6f8_o) c6f8_n c6f8_c] 32 (0, 0)), (c6f4_o, .cells (arr (intC .i64) c6.Head c6f4_j).toArray 3 (0, 0)), (c6f6_o, .cells (arr (intC .i64) c6.Cap c6f6_j).toArray 2 (0, 0)), (c6f7_o, .cells (arr (intC .i64) c6.Arc c6f7_j).toArray 3 (0, 0)), (c6f8_o, .cells (arr boolC c6.Back c6f8_j).toArray 4 (0, 0))] : Heap).filterMap Prod.fst) (intC .i64) 1 c6f5_b c6f5_n c6f5_c c6.Rev) (h_c6f6_l : c6.Cap.length = c6f6_n) (h_c6f6_c : c6f6_n ≤ c6f6_c) (h_c6f6_j : c6f6_j.length = (c6f6_c - c6f6_n) * 1) (h_c6f6_z : (c6f6_o = none → c6f6_c = 0)) (h_c6f7_l : c6.Arc.length = c6f7_n) (h_c6f7_c : c6f7_n ≤ c6f7_c) (h_c6f7_j : c6f7_j.length = (c6f7_c - c6f7_n) * 1) (h_c6f7_z : (c6f7_o = none → c6f7_c = 0)) (h_c6f8_l : c6.Back.length = c6f8_n) (h_c6f8_c : c6f8_n ≤ c6f8_c) (h_c6f8_j : c6f8_j.length = (c6f8_c - c6f8_n) * 1) (h_c6f8_z : (c6f8_o = none → c6f8_c = 0)) {r0 : Int} {o0 : List Int} {o1 : Csr} (H : Z7e from0 to1 most2 arc3 back4 c5 c6 = some (r0, o0, o1)) : Fnc Try.prog 86 #[.int .i64 from0, .int .i64 to1, .int .i64 most2, .int .i64 arc3, .bool back4, .pointer (some ⟨c5_k, 0, none⟩), .pointer (some ⟨c6_k, 0, none⟩)] w (([(some c5_k, .cells #[.slice (sb c5_o) c5_n c5_c] 27 (0, 0)), (c5_o, .cells (arr (intC .i64) c5 c5_j).toArray 3 (0, 0)), (some c6_k, .cells #[.int .i64 c6.N, .int .i64 c6.S, .int .i64 c6.T, .slice c6f3_b c6f3_n c6f3_c, .slice (sb c6f4_o) c6f4_n c6f4_c, .slice c6f5_b c6f5_n c6f5_c, .slice (sb c6f6_o) c6f6_n c6f6_c, .slice (sb c6f7_o) c6f7_n c6f7_c, .slice (sb c6f8_o) c6f8_n c6f8_c] 32 (0, 0)), (c6f4_o, .cells (arr (intC .i64) c6.Head c6f4_j).toArray 3 (0, 0)), (c6f6_o, .cells (arr (intC .i64) c6.Cap c6f6_j).toArray 2 (0, 0)), (c6f7_o, .cells (arr (intC .i64) c6.Arc c6f7_j).toArray 3 (0, 0)), (c6f8_o, .cells (arr boolC c6.Back c6f8_j).toArray 4 (0, 0))] : Heap).filterMap Prod.fst) (fun v N => v = .int .i64 r0 ∧ N = [(some c5_k, .cells #[.slice (sb c5_o) c5_n c5_c] 27 (0, 0)), (c5_o, .cells (arr (intC .i64) o0 c5_j).toArray 3 (0, 0)), (some c6_k, .cells #[.int .i64 c6.N, .int .i64 c6.S, .int .i64 c6.T, .slice c6f3_b c6f3_n c6f3_c, .slice (sb c6f4_o) c6f4_n c6f4_c, .slice c6f5_b c6f5_n c6f5_c, .slice (sb c6f6_o) c6f6_n c6f6_c, .slice (sb c6f7_o) c6f7_n c6f7_c, .slice (sb c6f8_o) c6f8_n c6f8_c] 32 (0, 0)), (c6f4_o, .cells (arr (intC .i64) o1.Head c6f4_j).toArray 3 (0, 0)), (c6f6_o, .cells (arr (intC .i64) o1.Cap c6f6_j).toArray 2 (0, 0)), (c6f7_o, .cells (arr (intC .i64) o1.Arc c6f7_j).toArray 3 (0, 0)), (c6f8_o, .cells (arr boolC o1.Back c6f8_j).toArray 4 (0, 0))] ∧ o0.length = c5_n ∧ o1.Head.length = c6f4_n ∧ o1.Cap.length = c6f6_n ∧ o1.Arc.length = c6f7_n ∧ o1.Back.length = c6f8_n) := by
 unfold Z7e at H; refine Fnc.enter (vs := [.int .i64 from0, .int .i64 to1, .int .i64 most2, .int .i64 arc3, .bool back4, .pointer (some ⟨c5_k, 0, none⟩), .pointer (some ⟨c6_k, 0, none⟩)]) Try.func86 rfl rfl hin ?_; refine Z0d ?_; refine Z04 (ll := [0]) rfl ?_; refine Z09 rfl rfl rfl rfl ?_; refine Z02 ?_; refine Z01 ?_; refine Z0d ?_; obtain ⟨g8, H⟩ := Z0e H; refine Z04 (ll := [0, 1, 2, 3, 4]) rfl ?_; refine Z0c rfl rfl rfl rfl Z6r mm0 rfl ?_; refine Z06 rfl rfl rfl rfl ?_; refine Z2x h_c5_z h_c5_c h_c5_l g8 rfl rfl rfl rfl rfl Z1x Z1p ?_; refine Z5n h_c5_z h_c5_c h_c5_l g8 rfl rfl rfl rfl Z0w mm1 ?_; refine Z09 rfl rfl rfl rfl ?_; refine Z02 ?_; refine Z01 ?_; refine Z0d ?_; obtain ⟨g9, H⟩ := Z0e H; obtain ⟨g10, H⟩ := Z0e H; obtain ⟨g11, H⟩ := Z0e H; refine Z04 (ll := [0, 1, 2, 3, 4, 5, 6]) rfl ?_; refine Z0c rfl rfl rfl rfl Z6r mm0 rfl ?_; refine Z06 rfl rfl rfl rfl ?_; refine Z2x h_c5_z h_c5_c h_c5_l g9 rfl rfl rfl rfl rfl Z1x Z1p ?_; refine Z5n h_c5_z h_c5_c h_c5_l g9 rfl rfl rfl rfl Z0w mm1 ?_; refine Z11 g10 rfl rfl rfl rfl rfl ?_; refine Z2x h_c5_z h_c5_c h_c5_l g11 rfl rfl rfl rfl rfl Z1x Z1p ?_; refine Z74 h_c5_z h_c5_c h_c5_l g11 rfl rfl rfl rfl tk1 Z1p ?_; refine Z02 ?_; refine Z01 ?_; refine Z0l (Z00 (t := 1) rfl (Z00 (t := 2) rfl (Z00 (t := 3) rfl (Z00 (t := 4) rfl (Z00 (t := 6) rfl (Z00 (t := 13) rfl Z0b)))))) ?_; refine Z0d ?_; obtain ⟨g12, H⟩ := Z0e H; obtain ⟨g13, H⟩ := Z0e H; obtain ⟨g14, H⟩ := Z0e H; obtain ⟨g15, H⟩ := Z0e H; apply Z8m [⟨[], false, [], Z3j _⟩, ⟨[0], false, [], Z3j _⟩, ⟨[], false, [], Z3j _⟩, ⟨[], false, [], Z3j _⟩, ⟨[3], false, [], Z3j _⟩, ⟨[], false, [], Z3j _⟩, ⟨[], false, [], Z3j _⟩, ⟨[6], false, [], Z3j _⟩, ⟨[], false, [], Z3j _⟩, ⟨[], false, [], Z3j _⟩, ⟨[9], false, [], Z3j _⟩, ⟨[], false, [], Z3j _⟩, ⟨[], false, [], Z3j _⟩, ⟨[], false, [], Z3j _⟩, ⟨[], false, [], Z3j _⟩, ⟨[], false, [], Z3j _⟩, ⟨[1, 2], false, [], Z3j _⟩, ⟨[1, 2, 12, 16], true, [], relN⟩, ⟨[4, 5], false, [], Z3j _⟩, ⟨[4, 5, 13, 18], true, [], relN⟩, ⟨[7, 8], false, [], Z3j _⟩, ⟨[7, 8, 14, 20], true, [], relN⟩] [24, 25, 26, 27, 28, 29, 30, 31, 32, 33, 34, 35, 36, 37, 38, 39, 40, 41, 42] 22 (HRk [[(c6f4_o, .cells (arr (intC .i64) c6.Head c6f4_j).toArray 3 (0, 0)), (c6f6_o, .cells (arr (intC .i64) c6.Cap c6f6_j).toArray 2 (0, 0)), (c6f7_o, .cells (arr (intC .i64) c6.Arc c6f7_j).toArray 3 (0, 0))], [(c6f4_o, .cells (arr (intC .i64) (c6.Head.set (c5.getD from0.toNat 0).toNat to1) c6f4_j).toArray 3 (0, 0)), (c6f6_o, .cells (arr (intC .i64) c6.Cap c6f6_j).toArray 2 (0, 0)), (c6f7_o, .cells (arr (intC .i64) c6.Arc c6f7_j).toArray 3 (0, 0))], [(c6f4_o, .cells (arr (intC .i64) (c6.Head.set (c5.getD from0.toNat 0).toNat to1) c6f4_j).toArray 3 (0, 0)), (c6f6_o, .cells (arr (intC .i64) (c6.Cap.set (c5.getD from0.toNat 0).toNat most2) c6f6_j).toArray 2 (0, 0)), (c6f7_o, .cells (arr (intC .i64) c6.Arc c6f7_j).toArray 3 (0, 0))], [(c6f4_o, .cells (arr (intC .i64) (c6.Head.set (c5.getD from0.toNat 0).toNat to1) c6f4_j).toArray 3 (0, 0)), (c6f6_o, .cells (arr (intC .i64) (c6.Cap.set (c5.getD from0.toNat 0).toNat most2) c6f6_j).toArray 2 (0, 0)), (c6f7_o, .cells (arr (intC .i64) (c6.Arc.set (c5.getD from0.toNat 0).toNat arc3) c6f7_j).toArray 3 (0, 0))]]) [[], [], [], []] [(c6f4_o, .cells (arr (intC .i64) c6.Head c6f4_j).toArray 3 (0, 0)), (c6f6_o, .cells (arr (intC .i64) c6.Cap c6f6_j).toArray 2 (0, 0)), (c6f7_o, .cells (arr (intC .i64) c6.Arc c6f7_j).toArray 3 (0, 0))] [(c5_o, .cells (arr (intC .i64) (c5.set from0.toNat ((c5.getD from0.toNat 0) + 1)) c5_j).toArray 3 (0, 0)), (some c5_k, .cells #[.slice (sb c5_o) c5_n c5_c] 27 (0, 0)), (some c6_k, .cells #[.int .i64 c6.N, .int .i64 c6.S, .int .i64 c6.T, .slice c6f3_b c6f3_n c6f3_c, .slice (sb c6f4_o) c6f4_n c6f4_c, .slice c6f5_b c6f5_n c6f5_c, .slice (sb c6f6_o) c6f6_n c6f6_c, .slice (sb c6f7_o) c6f7_n c6f7_c, .slice (sb c6f8_o) c6f8_n c6f8_c] 32 (0, 0)), (c6f8_o, .cells (arr boolC c6.Back c6f8_j).toArray 4 (0, 0))]
 · exact Z6a
 · exact rfl
 · kernel_rfl
 · kernel_rfl
 · kernel_rfl
 · exact rfl
 · exact rfl
 · exact rfl
 · exact rfl
 · exact (by repeat (first | exact Z07 _ | exact Z0a | apply Pick.none | refine Z03 (by repeat (first | exact Take.head _ _ | apply Take.tail)) ?_))
 ·
  refine ⟨?_, ?_, ?_, ?_, ?_, ?_, ?_, ?_, ?_, ?_, ?_, ?_, ?_, ?_, ?_, ?_, ?_, ?_, ?_, ?_, ?_, ?_, trivial⟩
  · rintro vs es Es Hx -; refine Z0g (D := []) rfl ?_; refine Z05 rfl rfl rfl rfl Zbo ?_; refine Z02 ?_; exact Z0x rfl ⟨rfl, rfl⟩ (Z07 _) rfl
  · rintro vs es Es Hx ⟨⟨h_0, e_0⟩, -⟩; refine Z0g (D := [(24, vs 0)]) rfl ?_; rw [h_0]; refine Z0c rfl rfl rfl rfl Z6r mm2 rfl ?_; refine Z02 ?_; exact Z0x rfl ⟨rfl, rfl⟩ (Z07 _) (by show [(24, vs 0)] = _; rw [h_0])
  · rintro vs es Es Hx -; refine Z0g (D := []) rfl ?_; refine Z06 rfl rfl rfl rfl ?_; refine Z02 ?_; exact Z0x rfl ⟨rfl, rfl⟩ (Z07 _) rfl
  · rintro vs es Es Hx -; refine Z0g (D := []) rfl ?_; refine Z05 rfl rfl rfl rfl Zfe ?_; refine Z02 ?_; exact Z0x rfl ⟨rfl, rfl⟩ (Z07 _) rfl
  · rintro vs es Es Hx ⟨⟨h_3, e_3⟩, -⟩; refine Z0g (D := [(27, vs 3)]) rfl ?_; rw [h_3]; refine Z0c rfl rfl rfl rfl Zo6 mm2 rfl ?_; refine Z02 ?_; exact Z0x rfl ⟨rfl, rfl⟩ (Z07 _) (by show [(27, vs 3)] = _; rw [h_3])
  · rintro vs es Es Hx -; refine Z0g (D := []) rfl ?_; refine Z06 rfl rfl rfl rfl ?_; refine Z02 ?_; exact Z0x rfl ⟨rfl, rfl⟩ (Z07 _) rfl
  · rintro vs es Es Hx -; refine Z0g (D := []) rfl ?_; refine Z05 rfl rfl rfl rfl Zfd ?_; refine Z02 ?_; exact Z0x rfl ⟨rfl, rfl⟩ (Z07 _) rfl
  · rintro vs es Es Hx ⟨⟨h_6, e_6⟩, -⟩; refine Z0g (D := [(30, vs 6)]) rfl ?_; rw [h_6]; refine Z0c rfl rfl rfl rfl Z6r mm2 rfl ?_; refine Z02 ?_; exact Z0x rfl ⟨rfl, rfl⟩ (Z07 _) (by show [(30, vs 6)] = _; rw [h_6])
  · rintro vs es Es Hx -; refine Z0g (D := []) rfl ?_; refine Z06 rfl rfl rfl rfl ?_; refine Z02 ?_; exact Z0x rfl ⟨rfl, rfl⟩ (Z07 _) rfl
  · rintro vs es Es Hx -; refine Z0g (D := []) rfl ?_; refine Z05 rfl rfl rfl rfl Zfc ?_; refine Z02 ?_; exact Z0x rfl ⟨rfl, rfl⟩ (Z07 _) rfl
  · rintro vs es Es Hx ⟨⟨h_9, e_9⟩, -⟩; refine Z0g (D := [(33, vs 9)]) rfl ?_; rw [h_9]; refine Z0c rfl rfl rfl rfl Zo5 mm2 rfl ?_; refine Z02 ?_; exact Z0x rfl ⟨rfl, rfl⟩ (Z07 _) (by show [(33, vs 9)] = _; rw [h_9])
  · rintro vs es Es Hx -; refine Z0g (D := []) rfl ?_; refine Z06 rfl rfl rfl rfl ?_; refine Z02 ?_; exact Z0x rfl ⟨rfl, rfl⟩ (Z07 _) rfl
  · rintro vs es Es Hx -; refine Z0g (D := []) rfl ?_; refine Z06 rfl rfl rfl rfl ?_; refine Z02 ?_; exact Z0x rfl ⟨rfl, rfl⟩ (Z07 _) rfl
  · rintro vs es Es Hx -; refine Z0g (D := []) rfl ?_; refine Z06 rfl rfl rfl rfl ?_; refine Z02 ?_; exact Z0x rfl ⟨rfl, rfl⟩ (Z07 _) rfl
  · rintro vs es Es Hx -; refine Z0g (D := []) rfl ?_; refine Z06 rfl rfl rfl rfl ?_; refine Z02 ?_; exact Z0x rfl ⟨rfl, rfl⟩ (Z07 _) rfl
  · rintro vs es Es Hx -; refine Z0g (D := []) rfl ?_; refine Z06 rfl rfl rfl rfl ?_; refine Z02 ?_; exact Z0x rfl ⟨rfl, rfl⟩ (Z07 _) rfl
  · rintro vs es Es Hx ⟨⟨h_1, e_1⟩, ⟨h_2, e_2⟩, -⟩; refine Z0g (D := [(25, vs 1), (26, vs 2)]) rfl ?_; rw [h_1, h_2]; refine Z2x h_c6f4_z h_c6f4_c h_c6f4_l g12 rfl rfl rfl rfl rfl Z1x Z1p ?_; refine Z02 ?_; exact Z0x rfl ⟨rfl, rfl⟩ (Z07 _) (by show [(25, vs 1), (26, vs 2)] = _; rw [h_1, h_2])
  · rintro vs es Es Hx hb ⟨⟨h_1, e_1⟩, ⟨h_2, e_2⟩, ⟨h_12, e_12⟩, ⟨h_16, e_16⟩, -⟩ hHR; obtain rfl : hb = [(c6f4_o, .cells (arr (intC .i64) c6.Head c6f4_j).toArray 3 (0, 0)), (c6f6_o, .cells (arr (intC .i64) c6.Cap c6f6_j).toArray 2 (0, 0)), (c6f7_o, .cells (arr (intC .i64) c6.Arc c6f7_j).toArray 3 (0, 0))] := hHR; refine Z0g (D := [(25, vs 1), (26, vs 2), (36, vs 12), (40, vs 16)]) rfl ?_; rw [h_1, h_2, h_12, h_16]; refine Z74 h_c6f4_z h_c6f4_c h_c6f4_l g12 rfl rfl rfl rfl tk0 Z1p ?_; refine Z02 ?_; exact Zfr (hb' := [(c6f4_o, .cells (arr (intC .i64) (c6.Head.set (c5.getD from0.toNat 0).toNat to1) c6f4_j).toArray 3 (0, 0)), (c6f6_o, .cells (arr (intC .i64) c6.Cap c6f6_j).toArray 2 (0, 0)), (c6f7_o, .cells (arr (intC .i64) c6.Arc c6f7_j).toArray 3 (0, 0))]) rfl rfl rfl (by repeat (first | exact Z07 _ | exact Z0a | apply Pick.none | refine Z03 (by repeat (first | exact Take.head _ _ | apply Take.tail)) ?_)) (by show [(25, vs 1), (26, vs 2), (36, vs 12), (40, vs 16)] = _; rw [h_1, h_2, h_12, h_16])
  · rintro vs es Es Hx ⟨⟨h_4, e_4⟩, ⟨h_5, e_5⟩, -⟩; refine Z0g (D := [(28, vs 4), (29, vs 5)]) rfl ?_; rw [h_4, h_5]; refine Z2x h_c6f6_z h_c6f6_c h_c6f6_l g13 rfl rfl rfl rfl rfl Zir Zhb ?_; refine Z02 ?_; exact Z0x rfl ⟨rfl, rfl⟩ (Z07 _) (by show [(28, vs 4), (29, vs 5)] = _; rw [h_4, h_5])
  · rintro vs es Es Hx hb ⟨⟨h_4, e_4⟩, ⟨h_5, e_5⟩, ⟨h_13, e_13⟩, ⟨h_18, e_18⟩, -⟩ hHR; obtain rfl : hb = [(c6f4_o, .cells (arr (intC .i64) (c6.Head.set (c5.getD from0.toNat 0).toNat to1) c6f4_j).toArray 3 (0, 0)), (c6f6_o, .cells (arr (intC .i64) c6.Cap c6f6_j).toArray 2 (0, 0)), (c6f7_o, .cells (arr (intC .i64) c6.Arc c6f7_j).toArray 3 (0, 0))] := hHR; refine Z0g (D := [(28, vs 4), (29, vs 5), (37, vs 13), (41, vs 18)]) rfl ?_; rw [h_4, h_5, h_13, h_18]; refine Z74 h_c6f6_z h_c6f6_c h_c6f6_l g13 rfl rfl rfl rfl tk1 Zhb ?_; refine Z02 ?_; exact Zfr (hb' := [(c6f4_o, .cells (arr (intC .i64) (c6.Head.set (c5.getD from0.toNat 0).toNat to1) c6f4_j).toArray 3 (0, 0)), (c6f6_o, .cells (arr (intC .i64) (c6.Cap.set (c5.getD from0.toNat 0).toNat most2) c6f6_j).toArray 2 (0, 0)), (c6f7_o, .cells (arr (intC .i64) c6.Arc c6f7_j).toArray 3 (0, 0))]) rfl rfl rfl (by repeat (first | exact Z07 _ | exact Z0a | apply Pick.none | refine Z03 (by repeat (first | exact Take.head _ _ | apply Take.tail)) ?_)) (by show [(28, vs 4), (29, vs 5), (37, vs 13), (41, vs 18)] = _; rw [h_4, h_5, h_13, h_18])
  · rintro vs es Es Hx ⟨⟨h_7, e_7⟩, ⟨h_8, e_8⟩, -⟩; refine Z0g (D := [(31, vs 7), (32, vs 8)]) rfl ?_; rw [h_7, h_8]; refine Z2x h_c6f7_z h_c6f7_c h_c6f7_l g14 rfl rfl rfl rfl rfl Z1x Z1p ?_; refine Z02 ?_; exact Z0x rfl ⟨rfl, rfl⟩ (Z07 _) (by show [(31, vs 7), (32, vs 8)] = _; rw [h_7, h_8])
  · rintro vs es Es Hx hb ⟨⟨h_7, e_7⟩, ⟨h_8, e_8⟩, ⟨h_14, e_14⟩, ⟨h_20, e_20⟩, -⟩ hHR; obtain rfl : hb = [(c6f4_o, .cells (arr (intC .i64) (c6.Head.set (c5.getD from0.toNat 0).toNat to1) c6f4_j).toArray 3 (0, 0)), (c6f6_o, .cells (arr (intC .i64) (c6.Cap.set (c5.getD from0.toNat 0).toNat most2) c6f6_j).toArray 2 (0, 0)), (c6f7_o, .cells (arr (intC .i64) c6.Arc c6f7_j).toArray 3 (0, 0))] := hHR; refine Z0g (D := [(31, vs 7), (32, vs 8), (38, vs 14), (42, vs 20)]) rfl ?_; rw [h_7, h_8, h_14, h_20]; refine Z74 h_c6f7_z h_c6f7_c h_c6f7_l g14 rfl rfl rfl rfl tk2 Z1p ?_; refine Z02 ?_; exact Zfr (hb' := [(c6f4_o, .cells (arr (intC .i64) (c6.Head.set (c5.getD from0.toNat 0).toNat to1) c6f4_j).toArray 3 (0, 0)), (c6f6_o, .cells (arr (intC .i64) (c6.Cap.set (c5.getD from0.toNat 0).toNat most2) c6f6_j).toArray 2 (0, 0)), (c6f7_o, .cells (arr (intC .i64) (c6.Arc.set (c5.getD from0.toNat 0).toNat arc3) c6f7_j).toArray 3 (0, 0))]) rfl rfl rfl (by repeat (first | exact Z07 _ | exact Z0a | apply Pick.none | refine Z03 (by repeat (first | exact Take.head _ _ | apply Take.tail)) ?_)) (by show [(31, vs 7), (32, vs 8), (38, vs 14), (42, vs 20)] = _; rw [h_7, h_8, h_14, h_20])
 · rintro vs es hb ⟨⟨h_0, e_0⟩, ⟨h_1, e_1⟩, ⟨h_2, e_2⟩, ⟨h_3, e_3⟩, ⟨h_4, e_4⟩, ⟨h_5, e_5⟩, ⟨h_6, e_6⟩, ⟨h_7, e_7⟩, ⟨h_8, e_8⟩, ⟨h_9, e_9⟩, ⟨h_10, e_10⟩, ⟨h_11, e_11⟩, ⟨h_12, e_12⟩, ⟨h_13, e_13⟩, ⟨h_14, e_14⟩, ⟨h_15, e_15⟩, ⟨h_16, e_16⟩, e_17, ⟨h_18, e_18⟩, e_19, ⟨h_20, e_20⟩, e_21, -⟩ hHR; obtain rfl : hb = [(c6f4_o, .cells (arr (intC .i64) (c6.Head.set (c5.getD from0.toNat 0).toNat to1) c6f4_j).toArray 3 (0, 0)), (c6f6_o, .cells (arr (intC .i64) (c6.Cap.set (c5.getD from0.toNat 0).toNat most2) c6f6_j).toArray 2 (0, 0)), (c6f7_o, .cells (arr (intC .i64) (c6.Arc.set (c5.getD from0.toNat 0).toNat arc3) c6f7_j).toArray 3 (0, 0))] := hHR; refine Z0g (D := [(24, vs 0), (25, vs 1), (26, vs 2), (27, vs 3), (28, vs 4), (29, vs 5), (30, vs 6), (31, vs 7), (32, vs 8), (33, vs 9), (34, vs 10), (35, vs 11), (36, vs 12), (37, vs 13), (38, vs 14), (39, vs 15), (40, vs 16), (41, vs 18), (42, vs 20)]) rfl ?_; refine Z1s (H := [(c6f4_o, .cells (arr (intC .i64) (c6.Head.set (c5.getD from0.toNat 0).toNat to1) c6f4_j).toArray 3 (0, 0)), (c6f6_o, .cells (arr (intC .i64) (c6.Cap.set (c5.getD from0.toNat 0).toNat most2) c6f6_j).toArray 2 (0, 0)), (c6f7_o, .cells (arr (intC .i64) (c6.Arc.set (c5.getD from0.toNat 0).toNat arc3) c6f7_j).toArray 3 (0, 0)), (c5_o, .cells (arr (intC .i64) (c5.set from0.toNat ((c5.getD from0.toNat 0) + 1)) c5_j).toArray 3 (0, 0)), (some c5_k, .cells #[.slice (sb c5_o) c5_n c5_c] 27 (0, 0)), (some c6_k, .cells #[.int .i64 c6.N, .int .i64 c6.S, .int .i64 c6.T, .slice c6f3_b c6f3_n c6f3_c, .slice (sb c6f4_o) c6f4_n c6f4_c, .slice c6f5_b c6f5_n c6f5_c, .slice (sb c6f6_o) c6f6_n c6f6_c, .slice (sb c6f7_o) c6f7_n c6f7_c, .slice (sb c6f8_o) c6f8_n c6f8_c] 32 (0, 0)), (c6f8_o, .cells (arr boolC c6.Back c6f8_j).toArray 4 (0, 0))]) (by show _ ++ (_ ++ (es 0 ++ (es 1 ++ (es 2 ++ (es 3 ++ (es 4 ++ (es 5 ++ (es 6 ++ (es 7 ++ (es 8 ++ (es 9 ++ (es 10 ++ (es 11 ++ (es 12 ++ (es 13 ++ (es 14 ++ (es 15 ++ (es 16 ++ (es 17 ++ (es 18 ++ (es 19 ++ (es 20 ++ (es 21 ++ ([])))))))))))))))))))))))) = _; rw [e_0, e_1, e_2, e_3, e_4, e_5, e_6, e_7, e_8, e_9, e_10, e_11, e_12, e_13, e_14, e_15, e_16, e_17, e_18, e_19, e_20, e_21]; rfl) ?_; rw [h_0, h_1, h_2, h_3, h_4, h_5, h_6, h_7, h_8, h_9, h_10, h_11, h_12, h_13, h_14, h_15, h_16, h_18, h_20]; clear h_20 h_18 h_16 h_15 h_14 h_13 h_12 h_11 h_10 h_9 h_8 h_7 h_6 h_5 h_4 h_3 h_2 h_1 h_0 e_0 e_1 e_2 e_3 e_4 e_5 e_6 e_7 e_8 e_9 e_10 e_11 e_12 e_13 e_14 e_15 e_16 e_17 e_18 e_19 e_20 e_21; refine Z2x h_c6f8_z h_c6f8_c h_c6f8_l g15 rfl rfl rfl rfl rfl Ziq Zha ?_; refine Zfi h_c6f8_z h_c6f8_c h_c6f8_l g15 rfl rfl rfl rfl tk6 Zha ?_; refine Z02 ?_; refine Z01 ?_; refine Z0l (Z00 (t := 13) rfl Z0b) ?_; refine Z0d ?_; refine Z04 (ll := [0, 1]) rfl ?_; refine Z06 rfl rfl rfl rfl ?_; refine Z09 rfl rfl rfl rfl ?_; refine Z02 ?_; refine Z01 ?_; refine T.ret ?_; obtain ⟨rfl, rfl, rfl⟩ := ret3 H; exact Z12 rfl rfl rfl rfl (Res.tmp rfl) (Z03 tk5 (Z03 tk4 (Z03 tk4 (Z03 tk1 (Z03 tk1 (Z03 tk1 (Z03 tk0 Z0a))))))) ⟨rfl, rfl, (List.length_set.trans h_c5_l), (List.length_set.trans h_c6f4_l), (List.length_set.trans h_c6f6_l), (List.length_set.trans h_c6f7_l), (List.length_set.trans h_c6f8_l)⟩
theorem Zfs {n0 : Net} {n0f3_b : Option Addr} {n0f3_n : Nat} {n0f3_c : Nat} (w : World) (h_n0f3 : RS w [] Z7o 3 n0f3_b n0f3_n n0f3_c n0.Arcs) {r0 : Csr} {r1 : Int} (H : Z66 n0 = some (r0, r1)) : Fnc Try.prog 51 #[.agg #[.int .i64 n0.N, .int .i64 n0.S, .int .i64 n0.T, .slice n0f3_b n0f3_n n0f3_c]] w [] (fun v N => ∃ (ob_0 : Option Nat) (n_0 : Nat) (c_0 : Nat) (j_0 : List Value) (ob_4 : Option Nat) (n_4 : Nat) (c_4 : Nat) (j_4 : List Value) (ob_8 : Option Nat) (n_8 : Nat) (c_8 : Nat) (j_8 : List Value) (ob_12 : Option Nat) (n_12 : Nat) (c_12 : Nat) (j_12 : List Value) (ob_16 : Option Nat) (n_16 : Nat) (c_16 : Nat) (j_16 : List Value) (ob_20 : Option Nat) (n_20 : Nat) (c_20 : Nat) (j_20 : List Value), v = .tuple #[.agg #[.int .i64 r0.N, .int .i64 r0.S, .int .i64 r0.T, .slice (sb ob_0) n_0 c_0, .slice (sb ob_4) n_4 c_4, .slice (sb ob_8) n_8 c_8, .slice (sb ob_12) n_12 c_12, .slice (sb ob_16) n_16 c_16, .slice (sb ob_20) n_20 c_20], .int .i64 r1] ∧ N = [(ob_0, .cells (arr (intC .i64) r0.First j_0).toArray 3 (0, 0)), (ob_4, .cells (arr (intC .i64) r0.Head j_4).toArray 3 (0, 0)), (ob_8, .cells (arr (intC .i64) r0.Rev j_8).toArray 3 (0, 0)), (ob_12, .cells (arr (intC .i64) r0.Cap j_12).toArray 2 (0, 0)), (ob_16, .cells (arr (intC .i64) r0.Arc j_16).toArray 3 (0, 0)), (ob_20, .cells (arr boolC r0.Back j_20).toArray 4 (0, 0))] ∧ r0.First.length = n_0 ∧ n_0 ≤ c_0 ∧ j_0.length = (c_0 - n_0) * 1 ∧ (ob_0 = none → c_0 = 0) ∧ r0.Head.length = n_4 ∧ n_4 ≤ c_4 ∧ j_4.length = (c_4 - n_4) * 1 ∧ (ob_4 = none → c_4 = 0) ∧ r0.Rev.length = n_8 ∧ n_8 ≤ c_8 ∧ j_8.length = (c_8 - n_8) * 1 ∧ (ob_8 = none → c_8 = 0) ∧ r0.Cap.length = n_12 ∧ n_12 ≤ c_12 ∧ j_12.length = (c_12 - n_12) * 1 ∧ (ob_12 = none → c_12 = 0) ∧ r0.Arc.length = n_16 ∧ n_16 ≤ c_16 ∧ j_16.length = (c_16 - n_16) * 1 ∧ (ob_16 = none → c_16 = 0) ∧ r0.Back.length = n_20 ∧ n_20 ≤ c_20 ∧ j_20.length = (c_20 - n_20) * 1 ∧ (ob_20 = none → c_20 = 0)) := by
 unfold Z66 at H; refine Fnc.enter (vs := [.agg #[.int .i64 n0.N, .int .i64 n0.S, .int .i64 n0.T, .slice n0f3_b n0f3_n n0f3_c]]) Try.func51 rfl rfl (Inv.refl w) ?_; refine Z0d ?_; refine Z04 (ll := [0, 1, 2]) rfl ?_; refine Z1v rfl rfl rfl rfl ?_; intro b1; refine Z0z rfl rfl rfl Zin ?_; intro b3; refine Z09 rfl rfl rfl rfl ?_; refine Z02 ?_; refine Z01 ?_; refine Z0d ?_; refine Z0d ?_; obtain ⟨r5, e6, H⟩ := Z0k H; refine Z04 (ll := [0, 1, 2]) rfl ?_; refine Z0u rfl rfl rfl rfl Z2c mm1 rfl ?_; refine Z0o Zob rfl rfl rfl rfl (fun wc hwc => Z9s (n0 := n0) wc (h_n0f3.mono hwc) e6) ?_; rintro _ _ ⟨rfl, rfl⟩; refine Z09 rfl rfl rfl rfl ?_; refine Z02 ?_; refine Z01 ?_; refine Z0d ?_; refine Z04 (ll := [0, 1]) rfl ?_; refine Z06 rfl rfl rfl rfl ?_; refine Z0p rfl rfl rfl rfl rfl rfl ?_; refine Z02 ?_; refine Z01 ?_; rcases Z0i H with ⟨g7, H⟩ | ⟨g7, H⟩
 · refine Z15 rfl g7 ?_; refine Z0d ?_; refine Z04 (ll := [0, 1, 2, 3]) rfl ?_; refine Z0y (t := 32) [.int .i64 0, .int .i64 0, .int .i64 0, .slice none 0 0, .slice none 0 0, .slice none 0 0, .slice none 0 0, .slice none 0 0, .slice none 0 0] [0, 1, 2, 3, 4, 5, 6, 7, 8] rfl rfl rfl rfl (by simp only [Z1n, setCells, Value.cells, List.toList_toArray, List.getD_cons_zero, List.getD_cons_succ, List.set_cons_zero, List.set_cons_succ]; rfl) (by kernel_rfl) ?_; refine Z06 rfl rfl rfl rfl ?_; refine Z0t rfl rfl rfl rfl tk0 Zfb rfl rfl rfl ?_; refine Z09 rfl rfl rfl rfl ?_; refine Z02 ?_; refine Z01 ?_; refine Z0l (Z00 (t := 2) rfl (Z00 (t := 3) rfl Z0b)) ?_; refine T.ret ?_; refine Z0h ?_; obtain ⟨rfl, rfl⟩ := ret2 H; exact Z7f rfl rfl rfl rfl (Z29 rfl Zfg mm0 rfl) (Res.tmp rfl) (Pick.none (Pick.none (Pick.none (Pick.none (Pick.none (Pick.none Z0a)))))) ⟨none, 0, 0, ([]), none, 0, 0, ([]), none, 0, 0, ([]), none, 0, 0, ([]), none, 0, 0, ([]), none, 0, 0, ([]), rfl, rfl, rfl, (Nat.le_refl _), (Z30 0 _), (fun _ => rfl), rfl, (Nat.le_refl _), (Z30 0 _), (fun _ => rfl), rfl, (Nat.le_refl _), (Z30 0 _), (fun _ => rfl), rfl, (Nat.le_refl _), (Z30 0 _), (fun _ => rfl), rfl, (Nat.le_refl _), (Z30 0 _), (fun _ => rfl), rfl, (Nat.le_refl _), (Z30 0 _), (fun _ => rfl)⟩
 ·
  refine Z16 rfl g7 ?_; refine T.skip ?_; refine Z01 ?_; refine Z0d ?_; obtain ⟨r8, e9, H⟩ := Z0k H; apply Z8m [⟨[], false, [], Z3j _⟩, ⟨[0], false, [], Z3j _⟩, ⟨[], false, [], Z3j _⟩, ⟨[2], false, [], Z3j _⟩, ⟨[], false, [], Z3j _⟩, ⟨[4], false, [], Z3j _⟩, ⟨[], false, [], Z3j _⟩, ⟨[6], false, [], fun _ v e => ∃ (ob10 : Option Nat) (n11 : Nat) (c12 : Nat) (j13 : List Value), v = .slice (sb ob10) n11 c12 ∧ e = [(ob10, .cells (arr (intC .i64) r8 j13).toArray 3 (0, 0))] ∧ r8.length = n11 ∧ n11 ≤ c12 ∧ j13.length = (c12 - n11) * 1 ∧ (ob10 = none → c12 = 0)⟩, ⟨[1, 3, 5, 7], false, [], fun vl v e => v = (Value.agg #[.int .i64 n0.N, .int .i64 n0.S, .int .i64 n0.T, (vl.getD 3 undef), .slice none 0 0, .slice none 0 0, .slice none 0 0, .slice none 0 0, .slice none 0 0]) ∧ e = []⟩, ⟨[], false, [], fun _ v e => ∃ (b19 : Nat), v = .pointer (some ⟨b19, 0, none⟩) ∧ e = [(some b19, .cells #[.int .i64 0, .int .i64 0, .int .i64 0, .slice none 0 0, .slice none 0 0, .slice none 0 0, .slice none 0 0, .slice none 0 0, .slice none 0 0] 32 (0, 0))]⟩] [19, 20, 21, 22, 23, 24, 25, 26, 27, 5] 10 (HRk [[]]) [[]] [] [(some b3, .cells #[.int .i64 0, .int .i64 0, .int .i64 0, .slice none 0 0, .slice none 0 0, .slice none 0 0, .slice none 0 0, .slice none 0 0, .slice none 0 0] 32 (0, 0)), (some b1, .cells #[.int .i64 n0.N, .int .i64 n0.S, .int .i64 n0.T, .slice n0f3_b n0f3_n n0f3_c] 24 (0, 0))]
  · exact Z6a
  · exact rfl
  · kernel_rfl
  · kernel_rfl
  · kernel_rfl
  · exact rfl
  · exact rfl
  · exact rfl
  · exact rfl
  · exact (by repeat (first | exact Z07 _ | exact Z0a | apply Pick.none | refine Z03 (by repeat (first | exact Take.head _ _ | apply Take.tail)) ?_))
  ·
   refine ⟨?_, ?_, ?_, ?_, ?_, ?_, ?_, ?_, ?_, ?_, trivial⟩
   · rintro vs es Es Hx -; refine Z0g (D := []) rfl ?_; refine Z05 rfl rfl rfl rfl Z2t ?_; refine Z02 ?_; exact Z0x rfl ⟨rfl, rfl⟩ (Z07 _) rfl
   · rintro vs es Es Hx ⟨⟨h_0, e_0⟩, -⟩; refine Z0g (D := [(19, vs 0)]) rfl ?_; rw [h_0]; refine Z0c rfl rfl rfl rfl Z0w mm1 rfl ?_; refine Z02 ?_; exact Z0x rfl ⟨rfl, rfl⟩ (Z07 _) (by show [(19, vs 0)] = _; rw [h_0])
   · rintro vs es Es Hx -; refine Z0g (D := []) rfl ?_; refine Z05 rfl rfl rfl rfl Z4p ?_; refine Z02 ?_; exact Z0x rfl ⟨rfl, rfl⟩ (Z07 _) rfl
   · rintro vs es Es Hx ⟨⟨h_2, e_2⟩, -⟩; refine Z0g (D := [(21, vs 2)]) rfl ?_; rw [h_2]; refine Z0c rfl rfl rfl rfl Z0w mm1 rfl ?_; refine Z02 ?_; exact Z0x rfl ⟨rfl, rfl⟩ (Z07 _) (by show [(21, vs 2)] = _; rw [h_2])
   · rintro vs es Es Hx -; refine Z0g (D := []) rfl ?_; refine Z05 rfl rfl rfl rfl Z5b ?_; refine Z02 ?_; exact Z0x rfl ⟨rfl, rfl⟩ (Z07 _) rfl
   · rintro vs es Es Hx ⟨⟨h_4, e_4⟩, -⟩; refine Z0g (D := [(23, vs 4)]) rfl ?_; rw [h_4]; refine Z0c rfl rfl rfl rfl Z0w mm1 rfl ?_; refine Z02 ?_; exact Z0x rfl ⟨rfl, rfl⟩ (Z07 _) (by show [(23, vs 4)] = _; rw [h_4])
   · rintro vs es Es Hx -; refine Z0g (D := []) rfl ?_; refine Z0u rfl rfl rfl rfl Z2c mm1 rfl ?_; refine Z02 ?_; exact Z0x rfl ⟨rfl, rfl⟩ (Z07 _) rfl
   · rintro vs es Es Hx ⟨⟨h_6, e_6⟩, -⟩; refine Z0g (D := [(25, vs 6)]) rfl ?_; rw [h_6]; refine Z0o Zoa rfl rfl rfl rfl (fun wc hwc => Zgq (n0 := n0) wc (h_n0f3.mono hwc) e9) ?_; rintro _ _ ⟨ob10, n11, c12, j13, rfl, rfl, hn14, hc15, hj16, hz17⟩; refine Z02 ?_; exact Z0x rfl ⟨ob10, n11, c12, j13, rfl, rfl, hn14, hc15, hj16, hz17⟩ (by repeat (first | exact Z07 _ | exact Z0a | apply Pick.none | refine Z03 (by repeat (first | exact Take.head _ _ | apply Take.tail)) ?_)) (by show [(25, vs 6)] = _; rw [h_6])
   · rintro vs es Es Hx ⟨⟨h_1, e_1⟩, ⟨h_3, e_3⟩, ⟨h_5, e_5⟩, ⟨ob10, n11, c12, j13, h_7, e_7, hn14, hc15, hj16, hz17⟩, -⟩; refine Z0g (D := [(20, vs 1), (22, vs 3), (24, vs 5), (26, vs 7)]) rfl ?_; rw [h_1, h_3, h_5, h_7]; refine Z1s (H := [(some b3, .cells #[.int .i64 0, .int .i64 0, .int .i64 0, .slice none 0 0, .slice none 0 0, .slice none 0 0, .slice none 0 0, .slice none 0 0, .slice none 0 0] 32 (0, 0)), (some b1, .cells #[.int .i64 n0.N, .int .i64 n0.S, .int .i64 n0.T, .slice n0f3_b n0f3_n n0f3_c] 24 (0, 0))] ++ ([(ob10, .cells (arr (intC .i64) r8 j13).toArray 3 (0, 0))] ++ Hx)) (by show _ ++ ((es 1 ++ (es 3 ++ (es 5 ++ (es 7 ++ ([]))))) ++ _) = _; rw [e_1, e_3, e_5, e_7]; rfl) ?_; refine Z0y (t := 32) [.int .i64 0, .int .i64 0, .int .i64 0, .slice none 0 0, .slice none 0 0, .slice none 0 0, .slice none 0 0, .slice none 0 0, .slice none 0 0] [0, 1, 2, 3, 4, 5, 6, 7, 8] rfl rfl rfl rfl (by simp only [Z1n, setCells, Value.cells, List.toList_toArray, List.getD_cons_zero, List.getD_cons_succ, List.set_cons_zero, List.set_cons_succ]; rfl) (by kernel_rfl) ?_; refine Z02 ?_; exact Z0x rfl ⟨by show _ = (Value.agg #[.int .i64 n0.N, .int .i64 n0.S, .int .i64 n0.T, vs 7, .slice none 0 0, .slice none 0 0, .slice none 0 0, .slice none 0 0, .slice none 0 0]); rw [h_7] <;> rfl, rfl⟩ (by show Pick (_ ++ (_ ++ ((es 1 ++ (es 3 ++ (es 5 ++ (es 7 ++ ([]))))) ++ _))) _; rw [e_1, e_3, e_5, e_7]; exact (by repeat (first | exact Z07 _ | exact Z0a | apply Pick.none | refine Z03 (by repeat (first | exact Take.head _ _ | apply Take.tail)) ?_))) (by show [(20, vs 1), (22, vs 3), (24, vs 5), (26, vs 7)] = _; rw [h_1, h_3, h_5, h_7])
   · rintro vs es Es Hx -; refine Z0g (D := []) rfl ?_; refine Z0z rfl rfl rfl Zin ?_; intro b19; refine Z02 ?_; exact Z0x rfl ⟨b19, rfl, rfl⟩ (by repeat (first | exact Z07 _ | exact Z0a | apply Pick.none | refine Z03 (by repeat (first | exact Take.head _ _ | apply Take.tail)) ?_)) rfl
  ·
   rintro vs es hb ⟨⟨h_0, e_0⟩, ⟨h_1, e_1⟩, ⟨h_2, e_2⟩, ⟨h_3, e_3⟩, ⟨h_4, e_4⟩, ⟨h_5, e_5⟩, ⟨h_6, e_6⟩, ⟨ob10, n11, c12, j13, h_7, e_7, hn14, hc15, hj16, hz17⟩, ⟨q_8, e_8⟩, ⟨b19, h_9, e_9⟩, -⟩ hHR; obtain rfl : hb = [] := hHR; have h_8 : vs 8 = .agg #[.int .i64 n0.N, .int .i64 n0.S, .int .i64 n0.T, .slice (sb ob10) n11 c12, .slice none 0 0, .slice none 0 0, .slice none 0 0, .slice none 0 0, .slice none 0 0] := by refine Eq.trans q_8 ?_; show (Value.agg #[.int .i64 n0.N, .int .i64 n0.S, .int .i64 n0.T, vs 7, .slice none 0 0, .slice none 0 0, .slice none 0 0, .slice none 0 0, .slice none 0 0]) = _; rw [h_7] <;> rfl
   refine Z0g (D := [(19, vs 0), (20, vs 1), (21, vs 2), (22, vs 3), (23, vs 4), (24, vs 5), (25, vs 6), (26, vs 7), (27, vs 8), (5, vs 9)]) rfl ?_; refine Z1s (H := [(some b3, .cells #[.int .i64 0, .int .i64 0, .int .i64 0, .slice none 0 0, .slice none 0 0, .slice none 0 0, .slice none 0 0, .slice none 0 0, .slice none 0 0] 32 (0, 0)), (some b1, .cells #[.int .i64 n0.N, .int .i64 n0.S, .int .i64 n0.T, .slice n0f3_b n0f3_n n0f3_c] 24 (0, 0)), (ob10, .cells (arr (intC .i64) r8 j13).toArray 3 (0, 0)), (some b19, .cells #[.int .i64 0, .int .i64 0, .int .i64 0, .slice none 0 0, .slice none 0 0, .slice none 0 0, .slice none 0 0, .slice none 0 0, .slice none 0 0] 32 (0, 0))]) (by show _ ++ (_ ++ (es 0 ++ (es 1 ++ (es 2 ++ (es 3 ++ (es 4 ++ (es 5 ++ (es 6 ++ (es 7 ++ (es 8 ++ (es 9 ++ ([])))))))))))) = _; rw [e_0, e_1, e_2, e_3, e_4, e_5, e_6, e_7, e_8, e_9]; rfl) ?_; rw [h_0, h_1, h_2, h_3, h_4, h_5, h_6, h_7, h_8, h_9]; clear h_9 h_8 h_7 h_6 h_5 h_4 h_3 h_2 h_1 h_0 q_8 e_0 e_1 e_2 e_3 e_4 e_5 e_6 e_7 e_8 e_9; refine Z0t rfl rfl rfl rfl tk3 Zfb rfl rfl rfl ?_; refine Z02 ?_; refine Z01 ?_; refine Z0l (Z00 (t := 1) rfl (Z00 (t := 2) rfl (Z00 (t := 5) rfl Z0b))) ?_; refine Z0d ?_; obtain ⟨g21, H⟩ := Z0e H; refine Z04 (ll := [0, 1, 2, 3, 4, 5, 6]) rfl ?_; refine Z05 rfl rfl rfl rfl Zff ?_; refine Z0c rfl rfl rfl rfl Z6r mm0 rfl ?_; refine Z05 rfl rfl rfl rfl Z2t ?_; refine Z0c rfl rfl rfl rfl Z0w mm2 rfl ?_; refine Z2x hz17 hc15 hn14 g21 rfl rfl rfl rfl rfl Z1x Z1p ?_; refine Z5n hz17 hc15 hn14 g21 rfl rfl rfl rfl Z0w mm3 ?_; refine Z09 rfl rfl rfl rfl ?_; refine Z02 ?_; refine Z01 ?_; refine Z0d ?_; obtain ⟨g22, H⟩ := Z0e H; obtain ⟨g25, H⟩ := Z0e H; obtain ⟨g28, H⟩ := Z0e H; obtain ⟨g31, H⟩ := Z0e H; obtain ⟨g34, H⟩ := Z0e H; apply Z8m [⟨[], false, [], Z3j _⟩, ⟨[0], false, [], fun _ v e => ∃ (b23 : Nat), v = .slice (some ⟨b23, 0, none⟩) ((r8.getD n0.N.toNat 0).toNat) ((r8.getD n0.N.toNat 0).toNat) ∧ e = [(some b23, .cells (arr (intC .i64) (List.replicate ((r8.getD n0.N.toNat 0).toNat) (0 : Int)) ([])).toArray 3 (0, 0))]⟩, ⟨[], false, [], Z3j _⟩, ⟨[2], false, [], fun _ v e => ∃ (b26 : Nat), v = .slice (some ⟨b26, 0, none⟩) ((r8.getD n0.N.toNat 0).toNat) ((r8.getD n0.N.toNat 0).toNat) ∧ e = [(some b26, .cells (arr (intC .i64) (List.replicate ((r8.getD n0.N.toNat 0).toNat) (0 : Int)) ([])).toArray 3 (0, 0))]⟩, ⟨[], false, [], Z3j _⟩, ⟨[4], false, [], fun _ v e => ∃ (b29 : Nat), v = .slice (some ⟨b29, 0, none⟩) ((r8.getD n0.N.toNat 0).toNat) ((r8.getD n0.N.toNat 0).toNat) ∧ e = [(some b29, .cells (arr (intC .i64) (List.replicate ((r8.getD n0.N.toNat 0).toNat) (0 : Int)) ([])).toArray 2 (0, 0))]⟩, ⟨[], false, [], Z3j _⟩, ⟨[6], false, [], fun _ v e => ∃ (b32 : Nat), v = .slice (some ⟨b32, 0, none⟩) ((r8.getD n0.N.toNat 0).toNat) ((r8.getD n0.N.toNat 0).toNat) ∧ e = [(some b32, .cells (arr (intC .i64) (List.replicate ((r8.getD n0.N.toNat 0).toNat) (0 : Int)) ([])).toArray 3 (0, 0))]⟩, ⟨[], false, [], Z3j _⟩, ⟨[8], false, [], fun _ v e => ∃ (b35 : Nat), v = .slice (some ⟨b35, 0, none⟩) ((r8.getD n0.N.toNat 0).toNat) ((r8.getD n0.N.toNat 0).toNat) ∧ e = [(some b35, .cells (arr boolC (List.replicate ((r8.getD n0.N.toNat 0).toNat) (false : Bool)) ([])).toArray 4 (0, 0))]⟩, ⟨[], false, [], Z3j _⟩, ⟨[1, 10], true, [], relN⟩, ⟨[], false, [], Z3j _⟩, ⟨[3, 12], true, [], relN⟩, ⟨[], false, [], Z3j _⟩, ⟨[5, 14], true, [], relN⟩, ⟨[], false, [], Z3j _⟩, ⟨[7, 16], true, [], relN⟩] [34, 35, 36, 37, 38, 39, 40, 41, 42, 43, 44, 45, 46, 47] 18 (HRv [fun vl => [(some b19, .cells #[.int .i64 n0.N, .int .i64 n0.S, .int .i64 n0.T, .slice (sb ob10) n11 c12, .slice none 0 0, .slice none 0 0, .slice none 0 0, .slice none 0 0, .slice none 0 0] 32 (0, 0))], fun vl => [(some b19, .cells #[.int .i64 n0.N, .int .i64 n0.S, .int .i64 n0.T, .slice (sb ob10) n11 c12, (vl.getD 0 undef), .slice none 0 0, .slice none 0 0, .slice none 0 0, .slice none 0 0] 32 (0, 0))], fun vl => [(some b19, .cells #[.int .i64 n0.N, .int .i64 n0.S, .int .i64 n0.T, .slice (sb ob10) n11 c12, (vl.getD 0 undef), (vl.getD 1 undef), .slice none 0 0, .slice none 0 0, .slice none 0 0] 32 (0, 0))], fun vl => [(some b19, .cells #[.int .i64 n0.N, .int .i64 n0.S, .int .i64 n0.T, .slice (sb ob10) n11 c12, (vl.getD 0 undef), (vl.getD 1 undef), (vl.getD 2 undef), .slice none 0 0, .slice none 0 0] 32 (0, 0))], fun vl => [(some b19, .cells #[.int .i64 n0.N, .int .i64 n0.S, .int .i64 n0.T, .slice (sb ob10) n11 c12, (vl.getD 0 undef), (vl.getD 1 undef), (vl.getD 2 undef), (vl.getD 3 undef), .slice none 0 0] 32 (0, 0))]]) [[], [1], [1, 3], [1, 3, 5], [1, 3, 5, 7]] [(some b19, .cells #[.int .i64 n0.N, .int .i64 n0.S, .int .i64 n0.T, .slice (sb ob10) n11 c12, .slice none 0 0, .slice none 0 0, .slice none 0 0, .slice none 0 0, .slice none 0 0] 32 (0, 0))] [(some b3, .cells #[.int .i64 0, .int .i64 0, .int .i64 0, .slice none 0 0, .slice none 0 0, .slice none 0 0, .slice none 0 0, .slice none 0 0, .slice none 0 0] 32 (0, 0)), (some b1, .cells #[.int .i64 n0.N, .int .i64 n0.S, .int .i64 n0.T, .slice n0f3_b n0f3_n n0f3_c] 24 (0, 0)), (ob10, .cells (arr (intC .i64) r8 j13).toArray 3 (0, 0))]
   · exact Z6a
   · exact rfl
   · kernel_rfl
   · kernel_rfl
   · kernel_rfl
   · exact rfl
   · exact rfl
   · exact rfl
   · exact rfl
   · exact (by repeat (first | exact Z07 _ | exact Z0a | apply Pick.none | refine Z03 (by repeat (first | exact Take.head _ _ | apply Take.tail)) ?_))
   ·
    refine ⟨?_, ?_, ?_, ?_, ?_, ?_, ?_, ?_, ?_, ?_, ?_, ?_, ?_, ?_, ?_, ?_, ?_, ?_, trivial⟩
    · rintro vs es Es Hx -; refine Z0g (D := []) rfl ?_; refine Z06 rfl rfl rfl rfl ?_; refine Z02 ?_; exact Z0x rfl ⟨rfl, rfl⟩ (Z07 _) rfl
    · rintro vs es Es Hx ⟨⟨h_0, e_0⟩, -⟩; refine Z0g (D := [(34, vs 0)]) rfl ?_; rw [h_0]; refine Zce g22 rfl rfl rfl rfl rfl Z1x Z1p Zcb Zcd rfl ?_; intro b23; refine Z02 ?_; exact Z0x rfl ⟨b23, rfl, rfl⟩ (by repeat (first | exact Z07 _ | exact Z0a | apply Pick.none | refine Z03 (by repeat (first | exact Take.head _ _ | apply Take.tail)) ?_)) (by show [(34, vs 0)] = _; rw [h_0])
    · rintro vs es Es Hx -; refine Z0g (D := []) rfl ?_; refine Z06 rfl rfl rfl rfl ?_; refine Z02 ?_; exact Z0x rfl ⟨rfl, rfl⟩ (Z07 _) rfl
    · rintro vs es Es Hx ⟨⟨h_2, e_2⟩, -⟩; refine Z0g (D := [(36, vs 2)]) rfl ?_; rw [h_2]; refine Zce g25 rfl rfl rfl rfl rfl Z1x Z1p Zcb Zcd rfl ?_; intro b26; refine Z02 ?_; exact Z0x rfl ⟨b26, rfl, rfl⟩ (by repeat (first | exact Z07 _ | exact Z0a | apply Pick.none | refine Z03 (by repeat (first | exact Take.head _ _ | apply Take.tail)) ?_)) (by show [(36, vs 2)] = _; rw [h_2])
    · rintro vs es Es Hx -; refine Z0g (D := []) rfl ?_; refine Z06 rfl rfl rfl rfl ?_; refine Z02 ?_; exact Z0x rfl ⟨rfl, rfl⟩ (Z07 _) rfl
    · rintro vs es Es Hx ⟨⟨h_4, e_4⟩, -⟩; refine Z0g (D := [(38, vs 4)]) rfl ?_; rw [h_4]; refine Zce g28 rfl rfl rfl rfl rfl Zir Zhb TWBS4.z2 TWBS4.b2 rfl ?_; intro b29; refine Z02 ?_; exact Z0x rfl ⟨b29, rfl, rfl⟩ (by repeat (first | exact Z07 _ | exact Z0a | apply Pick.none | refine Z03 (by repeat (first | exact Take.head _ _ | apply Take.tail)) ?_)) (by show [(38, vs 4)] = _; rw [h_4])
    · rintro vs es Es Hx -; refine Z0g (D := []) rfl ?_; refine Z06 rfl rfl rfl rfl ?_; refine Z02 ?_; exact Z0x rfl ⟨rfl, rfl⟩ (Z07 _) rfl
    · rintro vs es Es Hx ⟨⟨h_6, e_6⟩, -⟩; refine Z0g (D := [(40, vs 6)]) rfl ?_; rw [h_6]; refine Zce g31 rfl rfl rfl rfl rfl Z1x Z1p Zcb Zcd rfl ?_; intro b32; refine Z02 ?_; exact Z0x rfl ⟨b32, rfl, rfl⟩ (by repeat (first | exact Z07 _ | exact Z0a | apply Pick.none | refine Z03 (by repeat (first | exact Take.head _ _ | apply Take.tail)) ?_)) (by show [(40, vs 6)] = _; rw [h_6])
    · rintro vs es Es Hx -; refine Z0g (D := []) rfl ?_; refine Z06 rfl rfl rfl rfl ?_; refine Z02 ?_; exact Z0x rfl ⟨rfl, rfl⟩ (Z07 _) rfl
    · rintro vs es Es Hx ⟨⟨h_8, e_8⟩, -⟩; refine Z0g (D := [(42, vs 8)]) rfl ?_; rw [h_8]; refine Zok g34 rfl rfl rfl rfl rfl Ziq Zha TWBS4.z4 TWBS4.b4 rfl ?_; intro b35; refine Z02 ?_; exact Z0x rfl ⟨b35, rfl, rfl⟩ (by repeat (first | exact Z07 _ | exact Z0a | apply Pick.none | refine Z03 (by repeat (first | exact Take.head _ _ | apply Take.tail)) ?_)) (by show [(42, vs 8)] = _; rw [h_8])
    · rintro vs es Es Hx -; refine Z0g (D := []) rfl ?_; refine Z05 rfl rfl rfl rfl Zbo ?_; refine Z02 ?_; exact Z0x rfl ⟨rfl, rfl⟩ (Z07 _) rfl
    · rintro vs es Es Hx hb ⟨⟨b23, h_1, e_1⟩, ⟨h_10, e_10⟩, -⟩ hHR; obtain rfl : hb = [(some b19, .cells #[.int .i64 n0.N, .int .i64 n0.S, .int .i64 n0.T, .slice (sb ob10) n11 c12, .slice none 0 0, .slice none 0 0, .slice none 0 0, .slice none 0 0, .slice none 0 0] 32 (0, 0))] := hHR; refine Z0g (D := [(35, vs 1), (44, vs 10)]) rfl ?_; rw [h_1, h_10]; refine Z1s (H := [(some b19, .cells #[.int .i64 n0.N, .int .i64 n0.S, .int .i64 n0.T, .slice (sb ob10) n11 c12, .slice none 0 0, .slice none 0 0, .slice none 0 0, .slice none 0 0, .slice none 0 0] 32 (0, 0))] ++ ([(some b3, .cells #[.int .i64 0, .int .i64 0, .int .i64 0, .slice none 0 0, .slice none 0 0, .slice none 0 0, .slice none 0 0, .slice none 0 0, .slice none 0 0] 32 (0, 0)), (some b1, .cells #[.int .i64 n0.N, .int .i64 n0.S, .int .i64 n0.T, .slice n0f3_b n0f3_n n0f3_c] 24 (0, 0)), (ob10, .cells (arr (intC .i64) r8 j13).toArray 3 (0, 0))] ++ ([(some b23, .cells (arr (intC .i64) (List.replicate ((r8.getD n0.N.toNat 0).toNat) (0 : Int)) ([])).toArray 3 (0, 0))] ++ Hx))) (by show _ ++ (_ ++ ((es 1 ++ (es 10 ++ ([]))) ++ _)) = _; rw [e_1, e_10]; rfl) ?_; refine Z2g (cs' := [.int .i64 n0.N, .int .i64 n0.S, .int .i64 n0.T, .slice (sb ob10) n11 c12, .slice (some ⟨b23, 0, none⟩) ((r8.getD n0.N.toNat 0).toNat) ((r8.getD n0.N.toNat 0).toNat), .slice none 0 0, .slice none 0 0, .slice none 0 0, .slice none 0 0]) rfl rfl rfl rfl tk0 Zcc rfl rfl rfl ?_; rw [← h_1]; refine Z02 ?_; exact Zfr (hb' := [(some b19, .cells #[.int .i64 n0.N, .int .i64 n0.S, .int .i64 n0.T, .slice (sb ob10) n11 c12, (vs 1), .slice none 0 0, .slice none 0 0, .slice none 0 0, .slice none 0 0] 32 (0, 0))]) rfl rfl rfl (by show Pick (_ ++ (_ ++ ((es 1 ++ (es 10 ++ ([]))) ++ _))) _; rw [e_1, e_10]; exact (by repeat (first | exact Z07 _ | exact Z0a | apply Pick.none | refine Z03 (by repeat (first | exact Take.head _ _ | apply Take.tail)) ?_))) (by show [(35, vs 1), (44, vs 10)] = _; rw [h_10])
    · rintro vs es Es Hx -; refine Z0g (D := []) rfl ?_; refine Z05 rfl rfl rfl rfl Zbn ?_; refine Z02 ?_; exact Z0x rfl ⟨rfl, rfl⟩ (Z07 _) rfl
    · rintro vs es Es Hx hb ⟨⟨b26, h_3, e_3⟩, ⟨h_12, e_12⟩, -⟩ hHR; obtain rfl : hb = [(some b19, .cells #[.int .i64 n0.N, .int .i64 n0.S, .int .i64 n0.T, .slice (sb ob10) n11 c12, (vs 1), .slice none 0 0, .slice none 0 0, .slice none 0 0, .slice none 0 0] 32 (0, 0))] := hHR; refine Z0g (D := [(37, vs 3), (45, vs 12)]) rfl ?_; rw [h_3, h_12]; refine Z1s (H := [(some b19, .cells #[.int .i64 n0.N, .int .i64 n0.S, .int .i64 n0.T, .slice (sb ob10) n11 c12, (vs 1), .slice none 0 0, .slice none 0 0, .slice none 0 0, .slice none 0 0] 32 (0, 0))] ++ ([(some b3, .cells #[.int .i64 0, .int .i64 0, .int .i64 0, .slice none 0 0, .slice none 0 0, .slice none 0 0, .slice none 0 0, .slice none 0 0, .slice none 0 0] 32 (0, 0)), (some b1, .cells #[.int .i64 n0.N, .int .i64 n0.S, .int .i64 n0.T, .slice n0f3_b n0f3_n n0f3_c] 24 (0, 0)), (ob10, .cells (arr (intC .i64) r8 j13).toArray 3 (0, 0))] ++ ([(some b26, .cells (arr (intC .i64) (List.replicate ((r8.getD n0.N.toNat 0).toNat) (0 : Int)) ([])).toArray 3 (0, 0))] ++ Hx))) (by show _ ++ (_ ++ ((es 3 ++ (es 12 ++ ([]))) ++ _)) = _; rw [e_3, e_12]; rfl) ?_; refine Z2g (cs' := [.int .i64 n0.N, .int .i64 n0.S, .int .i64 n0.T, .slice (sb ob10) n11 c12, (vs 1), .slice (some ⟨b26, 0, none⟩) ((r8.getD n0.N.toNat 0).toNat) ((r8.getD n0.N.toNat 0).toNat), .slice none 0 0, .slice none 0 0, .slice none 0 0]) rfl rfl rfl rfl tk0 Zcc rfl rfl rfl ?_; rw [← h_3]; refine Z02 ?_; exact Zfr (hb' := [(some b19, .cells #[.int .i64 n0.N, .int .i64 n0.S, .int .i64 n0.T, .slice (sb ob10) n11 c12, (vs 1), (vs 3), .slice none 0 0, .slice none 0 0, .slice none 0 0] 32 (0, 0))]) rfl rfl rfl (by show Pick (_ ++ (_ ++ ((es 3 ++ (es 12 ++ ([]))) ++ _))) _; rw [e_3, e_12]; exact (by repeat (first | exact Z07 _ | exact Z0a | apply Pick.none | refine Z03 (by repeat (first | exact Take.head _ _ | apply Take.tail)) ?_))) (by show [(37, vs 3), (45, vs 12)] = _; rw [h_12])
    · rintro vs es Es Hx -; refine Z0g (D := []) rfl ?_; refine Z05 rfl rfl rfl rfl Zfe ?_; refine Z02 ?_; exact Z0x rfl ⟨rfl, rfl⟩ (Z07 _) rfl
    · rintro vs es Es Hx hb ⟨⟨b29, h_5, e_5⟩, ⟨h_14, e_14⟩, -⟩ hHR; obtain rfl : hb = [(some b19, .cells #[.int .i64 n0.N, .int .i64 n0.S, .int .i64 n0.T, .slice (sb ob10) n11 c12, (vs 1), (vs 3), .slice none 0 0, .slice none 0 0, .slice none 0 0] 32 (0, 0))] := hHR; refine Z0g (D := [(39, vs 5), (46, vs 14)]) rfl ?_; rw [h_5, h_14]; refine Z1s (H := [(some b19, .cells #[.int .i64 n0.N, .int .i64 n0.S, .int .i64 n0.T, .slice (sb ob10) n11 c12, (vs 1), (vs 3), .slice none 0 0, .slice none 0 0, .slice none 0 0] 32 (0, 0))] ++ ([(some b3, .cells #[.int .i64 0, .int .i64 0, .int .i64 0, .slice none 0 0, .slice none 0 0, .slice none 0 0, .slice none 0 0, .slice none 0 0, .slice none 0 0] 32 (0, 0)), (some b1, .cells #[.int .i64 n0.N, .int .i64 n0.S, .int .i64 n0.T, .slice n0f3_b n0f3_n n0f3_c] 24 (0, 0)), (ob10, .cells (arr (intC .i64) r8 j13).toArray 3 (0, 0))] ++ ([(some b29, .cells (arr (intC .i64) (List.replicate ((r8.getD n0.N.toNat 0).toNat) (0 : Int)) ([])).toArray 2 (0, 0))] ++ Hx))) (by show _ ++ (_ ++ ((es 5 ++ (es 14 ++ ([]))) ++ _)) = _; rw [e_5, e_14]; rfl) ?_; refine Z2g (cs' := [.int .i64 n0.N, .int .i64 n0.S, .int .i64 n0.T, .slice (sb ob10) n11 c12, (vs 1), (vs 3), .slice (some ⟨b29, 0, none⟩) ((r8.getD n0.N.toNat 0).toNat) ((r8.getD n0.N.toNat 0).toNat), .slice none 0 0, .slice none 0 0]) rfl rfl rfl rfl tk0 Zo8 rfl rfl rfl ?_; rw [← h_5]; refine Z02 ?_; exact Zfr (hb' := [(some b19, .cells #[.int .i64 n0.N, .int .i64 n0.S, .int .i64 n0.T, .slice (sb ob10) n11 c12, (vs 1), (vs 3), (vs 5), .slice none 0 0, .slice none 0 0] 32 (0, 0))]) rfl rfl rfl (by show Pick (_ ++ (_ ++ ((es 5 ++ (es 14 ++ ([]))) ++ _))) _; rw [e_5, e_14]; exact (by repeat (first | exact Z07 _ | exact Z0a | apply Pick.none | refine Z03 (by repeat (first | exact Take.head _ _ | apply Take.tail)) ?_))) (by show [(39, vs 5), (46, vs 14)] = _; rw [h_14])
    · rintro vs es Es Hx -; refine Z0g (D := []) rfl ?_; refine Z05 rfl rfl rfl rfl Zfd ?_; refine Z02 ?_; exact Z0x rfl ⟨rfl, rfl⟩ (Z07 _) rfl
    · rintro vs es Es Hx hb ⟨⟨b32, h_7, e_7⟩, ⟨h_16, e_16⟩, -⟩ hHR; obtain rfl : hb = [(some b19, .cells #[.int .i64 n0.N, .int .i64 n0.S, .int .i64 n0.T, .slice (sb ob10) n11 c12, (vs 1), (vs 3), (vs 5), .slice none 0 0, .slice none 0 0] 32 (0, 0))] := hHR; refine Z0g (D := [(41, vs 7), (47, vs 16)]) rfl ?_; rw [h_7, h_16]; refine Z1s (H := [(some b19, .cells #[.int .i64 n0.N, .int .i64 n0.S, .int .i64 n0.T, .slice (sb ob10) n11 c12, (vs 1), (vs 3), (vs 5), .slice none 0 0, .slice none 0 0] 32 (0, 0))] ++ ([(some b3, .cells #[.int .i64 0, .int .i64 0, .int .i64 0, .slice none 0 0, .slice none 0 0, .slice none 0 0, .slice none 0 0, .slice none 0 0, .slice none 0 0] 32 (0, 0)), (some b1, .cells #[.int .i64 n0.N, .int .i64 n0.S, .int .i64 n0.T, .slice n0f3_b n0f3_n n0f3_c] 24 (0, 0)), (ob10, .cells (arr (intC .i64) r8 j13).toArray 3 (0, 0))] ++ ([(some b32, .cells (arr (intC .i64) (List.replicate ((r8.getD n0.N.toNat 0).toNat) (0 : Int)) ([])).toArray 3 (0, 0))] ++ Hx))) (by show _ ++ (_ ++ ((es 7 ++ (es 16 ++ ([]))) ++ _)) = _; rw [e_7, e_16]; rfl) ?_; refine Z2g (cs' := [.int .i64 n0.N, .int .i64 n0.S, .int .i64 n0.T, .slice (sb ob10) n11 c12, (vs 1), (vs 3), (vs 5), .slice (some ⟨b32, 0, none⟩) ((r8.getD n0.N.toNat 0).toNat) ((r8.getD n0.N.toNat 0).toNat), .slice none 0 0]) rfl rfl rfl rfl tk0 Zcc rfl rfl rfl ?_; rw [← h_7]; refine Z02 ?_; exact Zfr (hb' := [(some b19, .cells #[.int .i64 n0.N, .int .i64 n0.S, .int .i64 n0.T, .slice (sb ob10) n11 c12, (vs 1), (vs 3), (vs 5), (vs 7), .slice none 0 0] 32 (0, 0))]) rfl rfl rfl (by show Pick (_ ++ (_ ++ ((es 7 ++ (es 16 ++ ([]))) ++ _))) _; rw [e_7, e_16]; exact (by repeat (first | exact Z07 _ | exact Z0a | apply Pick.none | refine Z03 (by repeat (first | exact Take.head _ _ | apply Take.tail)) ?_))) (by show [(41, vs 7), (47, vs 16)] = _; rw [h_16])
   ·
    rintro vs es hb ⟨⟨h_0, e_0⟩, ⟨b23, h_1, e_1⟩, ⟨h_2, e_2⟩, ⟨b26, h_3, e_3⟩, ⟨h_4, e_4⟩, ⟨b29, h_5, e_5⟩, ⟨h_6, e_6⟩, ⟨b32, h_7, e_7⟩, ⟨h_8, e_8⟩, ⟨b35, h_9, e_9⟩, ⟨h_10, e_10⟩, e_11, ⟨h_12, e_12⟩, e_13, ⟨h_14, e_14⟩, e_15, ⟨h_16, e_16⟩, e_17, -⟩ hHR; obtain rfl : hb = [(some b19, .cells #[.int .i64 n0.N, .int .i64 n0.S, .int .i64 n0.T, .slice (sb ob10) n11 c12, (vs 1), (vs 3), (vs 5), (vs 7), .slice none 0 0] 32 (0, 0))] := hHR; refine Z0g (D := [(34, vs 0), (35, vs 1), (36, vs 2), (37, vs 3), (38, vs 4), (39, vs 5), (40, vs 6), (41, vs 7), (42, vs 8), (43, vs 9), (44, vs 10), (45, vs 12), (46, vs 14), (47, vs 16)]) rfl ?_; refine Z1s (H := [(some b19, .cells #[.int .i64 n0.N, .int .i64 n0.S, .int .i64 n0.T, .slice (sb ob10) n11 c12, (vs 1), (vs 3), (vs 5), (vs 7), .slice none 0 0] 32 (0, 0)), (some b3, .cells #[.int .i64 0, .int .i64 0, .int .i64 0, .slice none 0 0, .slice none 0 0, .slice none 0 0, .slice none 0 0, .slice none 0 0, .slice none 0 0] 32 (0, 0)), (some b1, .cells #[.int .i64 n0.N, .int .i64 n0.S, .int .i64 n0.T, .slice n0f3_b n0f3_n n0f3_c] 24 (0, 0)), (ob10, .cells (arr (intC .i64) r8 j13).toArray 3 (0, 0)), (some b23, .cells (arr (intC .i64) (List.replicate ((r8.getD n0.N.toNat 0).toNat) (0 : Int)) ([])).toArray 3 (0, 0)), (some b26, .cells (arr (intC .i64) (List.replicate ((r8.getD n0.N.toNat 0).toNat) (0 : Int)) ([])).toArray 3 (0, 0)), (some b29, .cells (arr (intC .i64) (List.replicate ((r8.getD n0.N.toNat 0).toNat) (0 : Int)) ([])).toArray 2 (0, 0)), (some b32, .cells (arr (intC .i64) (List.replicate ((r8.getD n0.N.toNat 0).toNat) (0 : Int)) ([])).toArray 3 (0, 0)), (some b35, .cells (arr boolC (List.replicate ((r8.getD n0.N.toNat 0).toNat) (false : Bool)) ([])).toArray 4 (0, 0))]) (by show _ ++ (_ ++ (es 0 ++ (es 1 ++ (es 2 ++ (es 3 ++ (es 4 ++ (es 5 ++ (es 6 ++ (es 7 ++ (es 8 ++ (es 9 ++ (es 10 ++ (es 11 ++ (es 12 ++ (es 13 ++ (es 14 ++ (es 15 ++ (es 16 ++ (es 17 ++ ([])))))))))))))))))))) = _; rw [e_0, e_1, e_2, e_3, e_4, e_5, e_6, e_7, e_8, e_9, e_10, e_11, e_12, e_13, e_14, e_15, e_16, e_17]; rfl) ?_; rw [h_0, h_1, h_2, h_3, h_4, h_5, h_6, h_7, h_8, h_9, h_10, h_12, h_14, h_16]; clear h_16 h_14 h_12 h_10 h_9 h_8 h_7 h_6 h_5 h_4 h_3 h_2 h_1 h_0 e_0 e_1 e_2 e_3 e_4 e_5 e_6 e_7 e_8 e_9 e_10 e_11 e_12 e_13 e_14 e_15 e_16 e_17; refine Z05 rfl rfl rfl rfl Zfc ?_; refine Z2g (cs' := [.int .i64 n0.N, .int .i64 n0.S, .int .i64 n0.T, .slice (sb ob10) n11 c12, .slice (some ⟨b23, 0, none⟩) ((r8.getD n0.N.toNat 0).toNat) ((r8.getD n0.N.toNat 0).toNat), .slice (some ⟨b26, 0, none⟩) ((r8.getD n0.N.toNat 0).toNat) ((r8.getD n0.N.toNat 0).toNat), .slice (some ⟨b29, 0, none⟩) ((r8.getD n0.N.toNat 0).toNat) ((r8.getD n0.N.toNat 0).toNat), .slice (some ⟨b32, 0, none⟩) ((r8.getD n0.N.toNat 0).toNat) ((r8.getD n0.N.toNat 0).toNat), .slice (some ⟨b35, 0, none⟩) ((r8.getD n0.N.toNat 0).toNat) ((r8.getD n0.N.toNat 0).toNat)]) rfl rfl rfl rfl tk0 Zo7 rfl rfl rfl ?_; refine Z02 ?_; refine Z01 ?_; refine Z0l (Z00 (t := 1) rfl (Z00 (t := 2) rfl (Z00 (t := 5) rfl Z0b))) ?_; refine Z0d ?_; obtain ⟨r37, e38, H⟩ := Z0k H; refine Z04 (ll := [0, 1, 2, 3, 4]) rfl ?_; refine Z05 rfl rfl rfl rfl Zff ?_; refine Z0c rfl rfl rfl rfl Z6r mm0 rfl ?_; refine Z0o Zoc rfl rfl rfl rfl (fun wc hwc => Z8n (s0 := r8) wc (hwc.rs (f := (intC .i64)) (s := 1) (xs := r8) (j := j13) (fun _ => rfl) mm3 hn14 hc15 hz17) e38) ?_; rintro _ _ ⟨ob39, n40, c41, j42, rfl, rfl, hn43, hc44, hj45, hz46⟩; refine TO.alloc rfl rfl rfl Zo4 ?_; intro b48; refine Z2g (cs' := [.slice (sb ob39) n40 c41]) rfl rfl rfl rfl tk0 Zcc rfl rfl rfl ?_; refine Z02 ?_; refine Z01 ?_; refine Z0d ?_; refine Z04 (ll := [0, 1]) rfl ?_; refine TO.makeFunc rfl rfl rfl rfl rfl ?_; refine Z09 rfl rfl rfl rfl ?_; refine Z02 ?_; refine Z01 ?_; refine Z0d ?_; refine Z0d ?_; refine Z04 (ll := [0, 1, 2, 3]) rfl ?_; refine Z05 rfl rfl rfl rfl Z43 ?_; refine Z0c rfl rfl rfl rfl Z6s mm4 rfl ?_; refine Z1f (xs := n0.Arcs) h_n0f3.len rfl rfl rfl rfl rfl Z37 ?_; refine Z06 rfl rfl rfl rfl ?_; refine Z02 ?_; refine Z01 ?_; refine Ziy (fun (xs90 : List Int) (xs92 : List Int) (xs94 : List Int) (xs96 : List Int) (xs98 : List Bool) => Z7y n0 r8 xs90 xs92 xs94 xs96 xs98 = some (r0, r1) ∧ xs90.length = (r8.getD n0.N.toNat 0).toNat ∧ xs92.length = (r8.getD n0.N.toNat 0).toNat ∧ xs94.length = (r8.getD n0.N.toNat 0).toNat ∧ xs96.length = (r8.getD n0.N.toNat 0).toNat ∧ xs98.length = (r8.getD n0.N.toNat 0).toNat) (fun (xs90 : List Int) (xs92 : List Int) (xs94 : List Int) (xs96 : List Int) (xs98 : List Bool) => [(2, .pointer (some ⟨b3, 0, none⟩)), (5, .pointer (some ⟨b19, 0, none⟩))]) (fun (xs90 : List Int) (xs92 : List Int) (xs94 : List Int) (xs96 : List Int) (xs98 : List Bool) => [(some b3, .cells #[.int .i64 0, .int .i64 0, .int .i64 0, .slice none 0 0, .slice none 0 0, .slice none 0 0, .slice none 0 0, .slice none 0 0, .slice none 0 0] 32 (0, 0)), (some b19, .cells #[.int .i64 n0.N, .int .i64 n0.S, .int .i64 n0.T, .slice (sb ob10) n11 c12, .slice (some ⟨b23, 0, none⟩) ((r8.getD n0.N.toNat 0).toNat) ((r8.getD n0.N.toNat 0).toNat), .slice (some ⟨b26, 0, none⟩) ((r8.getD n0.N.toNat 0).toNat) ((r8.getD n0.N.toNat 0).toNat), .slice (some ⟨b29, 0, none⟩) ((r8.getD n0.N.toNat 0).toNat) ((r8.getD n0.N.toNat 0).toNat), .slice (some ⟨b32, 0, none⟩) ((r8.getD n0.N.toNat 0).toNat) ((r8.getD n0.N.toNat 0).toNat), .slice (some ⟨b35, 0, none⟩) ((r8.getD n0.N.toNat 0).toNat) ((r8.getD n0.N.toNat 0).toNat)] 32 (0, 0)), (ob10, .cells (arr (intC .i64) r8 j13).toArray 3 (0, 0)), (some b23, .cells (arr (intC .i64) xs90 ([])).toArray 3 (0, 0)), (some b26, .cells (arr (intC .i64) xs92 ([])).toArray 3 (0, 0)), (some b29, .cells (arr (intC .i64) xs94 ([])).toArray 2 (0, 0)), (some b32, .cells (arr (intC .i64) xs96 ([])).toArray 3 (0, 0)), (some b35, .cells (arr boolC xs98 ([])).toArray 4 (0, 0))]) ?_ ?_
    ·
     refine T.block ?_; obtain ⟨o_1, e_1, K_1⟩ := Z0k H; refine Zhg (fun (m_1 : Nat) (xs50 : List Int) (xs52 : List Int) (xs54 : List Int) (xs56 : List Int) (xs58 : List Bool) (xs60 : List Int) (x62 : Int) => Z2j (fun s => Z6k n0 r8 s.1 s.2.1 s.2.2.1 s.2.2.2.1 s.2.2.2.2.1 s.2.2.2.2.2.1 s.2.2.2.2.2.2) m_1 (xs50, xs52, xs54, xs56, xs58, xs60, x62) = some o_1 ∧ xs50.length = (r8.getD n0.N.toNat 0).toNat ∧ xs52.length = (r8.getD n0.N.toNat 0).toNat ∧ xs54.length = (r8.getD n0.N.toNat 0).toNat ∧ xs56.length = (r8.getD n0.N.toNat 0).toNat ∧ xs58.length = (r8.getD n0.N.toNat 0).toNat ∧ xs60.length = n40) (fun (m_1 : Nat) (xs50 : List Int) (xs52 : List Int) (xs54 : List Int) (xs56 : List Int) (xs58 : List Bool) (xs60 : List Int) (x62 : Int) => [(2, .pointer (some ⟨b3, 0, none⟩)), (5, .pointer (some ⟨b19, 0, none⟩)), (8, .func (.func 86) #[] #[.pointer (some ⟨b48, 0, none⟩), .pointer (some ⟨b19, 0, none⟩)]), (54, .slice n0f3_b n0f3_n n0f3_c), (55, .int .i64 (n0.Arcs.length : Int)), (56, .int .i64 x62)]) (fun (m_1 : Nat) (xs50 : List Int) (xs52 : List Int) (xs54 : List Int) (xs56 : List Int) (xs58 : List Bool) (xs60 : List Int) (x62 : Int) => [(some b3, .cells #[.int .i64 0, .int .i64 0, .int .i64 0, .slice none 0 0, .slice none 0 0, .slice none 0 0, .slice none 0 0, .slice none 0 0, .slice none 0 0] 32 (0, 0)), (some b19, .cells #[.int .i64 n0.N, .int .i64 n0.S, .int .i64 n0.T, .slice (sb ob10) n11 c12, .slice (some ⟨b23, 0, none⟩) ((r8.getD n0.N.toNat 0).toNat) ((r8.getD n0.N.toNat 0).toNat), .slice (some ⟨b26, 0, none⟩) ((r8.getD n0.N.toNat 0).toNat) ((r8.getD n0.N.toNat 0).toNat), .slice (some ⟨b29, 0, none⟩) ((r8.getD n0.N.toNat 0).toNat) ((r8.getD n0.N.toNat 0).toNat), .slice (some ⟨b32, 0, none⟩) ((r8.getD n0.N.toNat 0).toNat) ((r8.getD n0.N.toNat 0).toNat), .slice (some ⟨b35, 0, none⟩) ((r8.getD n0.N.toNat 0).toNat) ((r8.getD n0.N.toNat 0).toNat)] 32 (0, 0)), (ob10, .cells (arr (intC .i64) r8 j13).toArray 3 (0, 0)), (some b23, .cells (arr (intC .i64) xs50 ([])).toArray 3 (0, 0)), (some b26, .cells (arr (intC .i64) xs52 ([])).toArray 3 (0, 0)), (some b29, .cells (arr (intC .i64) xs54 ([])).toArray 2 (0, 0)), (some b32, .cells (arr (intC .i64) xs56 ([])).toArray 3 (0, 0)), (some b35, .cells (arr boolC xs58 ([])).toArray 4 (0, 0)), (some b48, .cells #[.slice (sb ob39) n40 c41] 27 (0, 0)), (ob39, .cells (arr (intC .i64) xs60 j42).toArray 3 (0, 0))]) (fun (m_1 : Nat) (xs50 : List Int) (xs52 : List Int) (xs54 : List Int) (xs56 : List Int) (xs58 : List Bool) (xs60 : List Int) (x62 : Int) => m_1) Z4w (List.replicate ((r8.getD n0.N.toNat 0).toNat) (0 : Int)) (List.replicate ((r8.getD n0.N.toNat 0).toNat) (0 : Int)) (List.replicate ((r8.getD n0.N.toNat 0).toNat) (0 : Int)) (List.replicate ((r8.getD n0.N.toNat 0).toNat) (0 : Int)) (List.replicate ((r8.getD n0.N.toNat 0).toNat) (false : Bool)) r37 0 ⟨e_1, List.length_replicate, List.length_replicate, List.length_replicate, List.length_replicate, List.length_replicate, hn43⟩ (Z00 rfl (Z00 rfl (Z00 rfl (Z00 rfl (Z00 rfl (Z00 rfl Z0b)))))) (Z03 tk3 (Z03 tk2 (Z03 tk3 (Z03 tk3 (Z03 tk3 (Z03 tk3 (Z03 tk3 (Z03 tk3 (Z03 tk0 (Z03 tk0 Z0a)))))))))) ?_; rintro m_1 xs50 xs52 xs54 xs56 xs58 xs60 x62 ⟨H, hn51, hn53, hn55, hn57, hn59, hn61⟩; obtain ⟨n_1, r_1, rfl, H, C_1⟩ := Z1o H; have H : Z6k n0 r8 xs50 xs52 xs54 xs56 xs58 xs60 x62 = some r_1 := H; unfold Z6k at H; refine Z0d ?_; refine Z04 (ll := [0]) rfl ?_; refine Z0p rfl rfl rfl rfl rfl rfl ?_; refine Z02 ?_; refine Z01 ?_; refine Z0d ?_; rcases Z0i H with ⟨g63, H⟩ | ⟨g63, H⟩
     ·
      refine Z15 rfl g63 ?_; refine T.skip ?_; refine Z01 ?_; refine Z0d ?_; refine T.block ?_; refine Z0d ?_; obtain ⟨g64, H⟩ := Z0e H; refine Z04 (ll := [0, 1, 2, 3, 4, 5]) rfl ?_; refine Z06 rfl rfl rfl rfl ?_; refine Z2e h_n0f3 g64 rfl rfl rfl rfl rfl Z37 Z4g ?_; refine Zax (cs := [.int .i64 ((n0.Arcs.getD x62.toNat default).fr), .int .i64 ((n0.Arcs.getD x62.toNat default).to), .int .i64 ((n0.Arcs.getD x62.toNat default).cap)]) default h_n0f3 g64 rfl rfl rfl rfl rfl Z7n ?_; refine Z0z rfl rfl rfl Z9h ?_; intro b65; refine Z09 rfl rfl rfl rfl ?_; refine Z0t rfl rfl rfl rfl tk0 Z4g rfl rfl rfl ?_; refine Z02 ?_; refine Z01 ?_; refine Z0d ?_; refine Z0d ?_; refine Z04 (ll := [0, 1, 2, 3, 4]) rfl ?_; refine Z05 rfl rfl rfl rfl Z5a ?_; refine Z0c rfl rfl rfl rfl Z0w mm0 rfl ?_; refine Z05 rfl rfl rfl rfl Z63 ?_; refine Z0c rfl rfl rfl rfl Z0w mm0 rfl ?_; refine Z0p rfl rfl rfl rfl rfl rfl ?_; refine Z02 ?_; refine Z01 ?_; refine Z0l (Z00 (t := 2) rfl (Z00 (t := 5) rfl (Z00 (t := 8) rfl (Z00 (t := 54) rfl (Z00 (t := 55) rfl (Z00 (t := 56) rfl (Z00 (t := 10) rfl (Z00 (t := 9) rfl (Z00 (t := 65) rfl Z0b))))))))) ?_; rcases Z0i H with ⟨g67, H⟩ | ⟨g67, H⟩
      · refine Z15 rfl g67 ?_; refine T.exit ?_; refine Z0m ?_; refine Z13 ?_; refine Z01 ?_; obtain ⟨g68, H⟩ := Z0e H; refine Z04 (ll := [0, 1]) rfl ?_; refine Z11 g68 rfl rfl rfl rfl rfl ?_; refine Z06 rfl rfl rfl rfl ?_; refine Z02 ?_; have H := Z1c H C_1; exact Zaq n_1 xs50 xs52 xs54 xs56 xs58 xs60 (x62 + 1) ⟨H, hn51, hn53, hn55, hn57, hn59, hn61⟩ (Nat.lt_succ_self _) (Z00 rfl (Z00 rfl (Z00 rfl (Z00 rfl (Z00 rfl (Z00 rfl Z0b)))))) (Z03 tk1 (Z03 tk1 (Z03 tk1 (Z03 tk1 (Z03 tk1 (Z03 tk1 (Z03 tk1 (Z03 tk1 (Z03 tk1 (Z03 tk1 Z0a))))))))))
      ·
       refine Z16 rfl g67 ?_; refine T.skip ?_; refine Z01 ?_; refine Z0d ?_; obtain ⟨⟨r69, r70, r71⟩, e72, H⟩ := Z0k H; refine Z04 (ll := [0, 1, 2, 3, 4, 5, 6, 7, 8, 9]) rfl ?_; refine Z06 rfl rfl rfl rfl ?_; refine Z05 rfl rfl rfl rfl Z5a ?_; refine Z0c rfl rfl rfl rfl Z0w mm0 rfl ?_; refine Z05 rfl rfl rfl rfl Z63 ?_; refine Z0c rfl rfl rfl rfl Z0w mm0 rfl ?_; refine Z05 rfl rfl rfl rfl Z62 ?_; refine Z0c rfl rfl rfl rfl Za4 mm0 rfl ?_; refine Z06 rfl rfl rfl rfl ?_; refine Zd2 Zis rfl rfl rfl rfl rfl (Z08 tk9 (Z08 tk9 (Z08 tk2 (Z08 tk3 (Z08 tk4 (Z08 tk4 (Z08 tk4 (Gone.refl _)))))))) rfl (fun wc hwc => Zd4 (from0 := (n0.Arcs.getD x62.toNat default).fr) (to1 := (n0.Arcs.getD x62.toNat default).to) (most2 := (n0.Arcs.getD x62.toNat default).cap) (arc3 := x62) (back4 := false) (c5 := xs60) (c6 := (Csr.mk n0.N n0.S n0.T r8 xs50 xs52 xs54 xs56 xs58)) wc (hwc.self (Z03 tk9 (Z03 tk9 (Z03 tk2 (Z03 tk3 (Z03 tk4 (Z03 tk4 (Z03 tk4 Z0a))))))) rfl) hn61 hc44 hj45 hz46 (hwc.rsM (f := (intC .i64)) (s := 1) (xs := r8) (j := j13) (fun _ => rfl) (Z08 tk9 (Z08 tk9 (Z08 tk2 (Z08 tk3 (Z08 tk4 (Z08 tk4 (Z08 tk4 (Gone.refl _)))))))) rfl mm2 hn14 hc15 hz17) hn51 (Nat.le_refl _) (Z30 _ _) Z49 (hwc.rsM (f := (intC .i64)) (s := 1) (xs := xs52) (j := ([])) (fun _ => rfl) (Z08 tk9 (Z08 tk9 (Z08 tk2 (Z08 tk3 (Z08 tk4 (Z08 tk4 (Z08 tk4 (Gone.refl _)))))))) rfl mm3 hn53 (Nat.le_refl _) Z49) hn55 (Nat.le_refl _) (Z30 _ _) Z49 hn57 (Nat.le_refl _) (Z30 _ _) Z49 hn59 (Nat.le_refl _) (Z30 _ _) Z49 e72) ?_; rintro _ _ ⟨rfl, rfl, hn73, hn74, hn75, hn76, hn77⟩; refine Z09 rfl rfl rfl rfl ?_; refine Z02 ?_; refine Z01 ?_; refine Z0l (Z00 (t := 2) rfl (Z00 (t := 5) rfl (Z00 (t := 8) rfl (Z00 (t := 54) rfl (Z00 (t := 55) rfl (Z00 (t := 56) rfl (Z00 (t := 10) rfl (Z00 (t := 9) rfl (Z00 (t := 11) rfl Z0b))))))))) ?_; refine Z0d ?_; obtain ⟨⟨r78, r79, r80⟩, e81, H⟩ := Z0k H; refine Z04 (ll := [0, 1, 2, 3, 4, 5, 6, 7]) rfl ?_; refine Z06 rfl rfl rfl rfl ?_; refine Z05 rfl rfl rfl rfl Z63 ?_; refine Z0c rfl rfl rfl rfl Z0w mm7 rfl ?_; refine Z05 rfl rfl rfl rfl Z5a ?_; refine Z0c rfl rfl rfl rfl Z0w mm7 rfl ?_; refine Z06 rfl rfl rfl rfl ?_; refine Zd2 Zis rfl rfl rfl rfl rfl (Z08 tk0 (Z08 tk0 (Z08 tk0 (Z08 tk0 (Z08 tk0 (Z08 tk0 (Z08 tk0 (Gone.refl _)))))))) rfl (fun wc hwc => Zd4 (from0 := (n0.Arcs.getD x62.toNat default).to) (to1 := (n0.Arcs.getD x62.toNat default).fr) (most2 := 0) (arc3 := x62) (back4 := true) (c5 := r70) (c6 := (Csr.mk n0.N n0.S n0.T r8 r71.Head xs52 r71.Cap r71.Arc r71.Back)) wc (hwc.self (Z03 tk0 (Z03 tk0 (Z03 tk0 (Z03 tk0 (Z03 tk0 (Z03 tk0 (Z03 tk0 Z0a))))))) rfl) hn73 hc44 hj45 hz46 (hwc.rsM (f := (intC .i64)) (s := 1) (xs := r8) (j := j13) (fun _ => rfl) (Z08 tk0 (Z08 tk0 (Z08 tk0 (Z08 tk0 (Z08 tk0 (Z08 tk0 (Z08 tk0 (Gone.refl _)))))))) rfl mm2 hn14 hc15 hz17) hn74 (Nat.le_refl _) (Z30 _ _) Z49 (hwc.rsM (f := (intC .i64)) (s := 1) (xs := xs52) (j := ([])) (fun _ => rfl) (Z08 tk0 (Z08 tk0 (Z08 tk0 (Z08 tk0 (Z08 tk0 (Z08 tk0 (Z08 tk0 (Gone.refl _)))))))) rfl mm3 hn53 (Nat.le_refl _) Z49) hn75 (Nat.le_refl _) (Z30 _ _) Z49 hn76 (Nat.le_refl _) (Z30 _ _) Z49 hn77 (Nat.le_refl _) (Z30 _ _) Z49 e81) ?_; rintro _ _ ⟨rfl, rfl, hn82, hn83, hn84, hn85, hn86⟩; refine Z09 rfl rfl rfl rfl ?_; refine Z02 ?_; refine Z01 ?_; refine Z0l (Z00 (t := 2) rfl (Z00 (t := 5) rfl (Z00 (t := 8) rfl (Z00 (t := 54) rfl (Z00 (t := 55) rfl (Z00 (t := 56) rfl (Z00 (t := 11) rfl (Z00 (t := 12) rfl Z0b)))))))) ?_; obtain ⟨g87, H⟩ := Z0e H; obtain ⟨g88, H⟩ := Z0e H; apply Z8m [⟨[], false, [], Z3j _⟩, ⟨[0], false, [], Z3j _⟩, ⟨[], false, [], Z3j _⟩, ⟨[], false, [], Z3j _⟩, ⟨[3], false, [], Z3j _⟩, ⟨[], false, [], Z3j _⟩, ⟨[], false, [], Z3j _⟩, ⟨[], false, [], Z3j _⟩, ⟨[1, 2], false, [], Z3j _⟩, ⟨[1, 2, 6, 8], true, [], relN⟩] [82, 83, 84, 85, 86, 87, 88, 89, 90] 10 (HRk [[(some b26, .cells (arr (intC .i64) xs52 ([])).toArray 3 (0, 0))], [(some b26, .cells (arr (intC .i64) (xs52.set r69.toNat r78) ([])).toArray 3 (0, 0))]]) [[], []] [(some b26, .cells (arr (intC .i64) xs52 ([])).toArray 3 (0, 0))] [(some b48, .cells #[.slice (sb ob39) n40 c41] 27 (0, 0)), (ob39, .cells (arr (intC .i64) r79 j42).toArray 3 (0, 0)), (some b19, .cells #[.int .i64 n0.N, .int .i64 n0.S, .int .i64 n0.T, .slice (sb ob10) n11 c12, .slice (some ⟨b23, 0, none⟩) ((r8.getD n0.N.toNat 0).toNat) ((r8.getD n0.N.toNat 0).toNat), .slice (some ⟨b26, 0, none⟩) ((r8.getD n0.N.toNat 0).toNat) ((r8.getD n0.N.toNat 0).toNat), .slice (some ⟨b29, 0, none⟩) ((r8.getD n0.N.toNat 0).toNat) ((r8.getD n0.N.toNat 0).toNat), .slice (some ⟨b32, 0, none⟩) ((r8.getD n0.N.toNat 0).toNat) ((r8.getD n0.N.toNat 0).toNat), .slice (some ⟨b35, 0, none⟩) ((r8.getD n0.N.toNat 0).toNat) ((r8.getD n0.N.toNat 0).toNat)] 32 (0, 0)), (some b23, .cells (arr (intC .i64) r80.Head ([])).toArray 3 (0, 0)), (some b29, .cells (arr (intC .i64) r80.Cap ([])).toArray 2 (0, 0)), (some b32, .cells (arr (intC .i64) r80.Arc ([])).toArray 3 (0, 0)), (some b35, .cells (arr boolC r80.Back ([])).toArray 4 (0, 0)), (some b65, .cells #[.int .i64 ((n0.Arcs.getD x62.toNat default).fr), .int .i64 ((n0.Arcs.getD x62.toNat default).to), .int .i64 ((n0.Arcs.getD x62.toNat default).cap)] 67 (0, 0)), (some b3, .cells #[.int .i64 0, .int .i64 0, .int .i64 0, .slice none 0 0, .slice none 0 0, .slice none 0 0, .slice none 0 0, .slice none 0 0, .slice none 0 0] 32 (0, 0)), (ob10, .cells (arr (intC .i64) r8 j13).toArray 3 (0, 0))]
       · exact Z6a
       · exact rfl
       · kernel_rfl
       · kernel_rfl
       · kernel_rfl
       · exact rfl
       · exact rfl
       · exact rfl
       · exact rfl
       · exact (by repeat (first | exact Z07 _ | exact Z0a | apply Pick.none | refine Z03 (by repeat (first | exact Take.head _ _ | apply Take.tail)) ?_))
       ·
        refine ⟨?_, ?_, ?_, ?_, ?_, ?_, ?_, ?_, ?_, ?_, trivial⟩
        · rintro vs es Es Hx -; refine Z0g (D := []) rfl ?_; refine Z05 rfl rfl rfl rfl Zbn ?_; refine Z02 ?_; exact Z0x rfl ⟨rfl, rfl⟩ (Z07 _) rfl
        · rintro vs es Es Hx ⟨⟨h_0, e_0⟩, -⟩; refine Z0g (D := [(82, vs 0)]) rfl ?_; rw [h_0]; refine Z0c rfl rfl rfl rfl Z6r mm2 rfl ?_; refine Z02 ?_; exact Z0x rfl ⟨rfl, rfl⟩ (Z07 _) (by show [(82, vs 0)] = _; rw [h_0])
        · rintro vs es Es Hx -; refine Z0g (D := []) rfl ?_; refine Z06 rfl rfl rfl rfl ?_; refine Z02 ?_; exact Z0x rfl ⟨rfl, rfl⟩ (Z07 _) rfl
        · rintro vs es Es Hx -; refine Z0g (D := []) rfl ?_; refine Z05 rfl rfl rfl rfl Zbn ?_; refine Z02 ?_; exact Z0x rfl ⟨rfl, rfl⟩ (Z07 _) rfl
        · rintro vs es Es Hx ⟨⟨h_3, e_3⟩, -⟩; refine Z0g (D := [(85, vs 3)]) rfl ?_; rw [h_3]; refine Z0c rfl rfl rfl rfl Z6r mm2 rfl ?_; refine Z02 ?_; exact Z0x rfl ⟨rfl, rfl⟩ (Z07 _) (by show [(85, vs 3)] = _; rw [h_3])
        · rintro vs es Es Hx -; refine Z0g (D := []) rfl ?_; refine Z06 rfl rfl rfl rfl ?_; refine Z02 ?_; exact Z0x rfl ⟨rfl, rfl⟩ (Z07 _) rfl
        · rintro vs es Es Hx -; refine Z0g (D := []) rfl ?_; refine Z06 rfl rfl rfl rfl ?_; refine Z02 ?_; exact Z0x rfl ⟨rfl, rfl⟩ (Z07 _) rfl
        · rintro vs es Es Hx -; refine Z0g (D := []) rfl ?_; refine Z06 rfl rfl rfl rfl ?_; refine Z02 ?_; exact Z0x rfl ⟨rfl, rfl⟩ (Z07 _) rfl
        · rintro vs es Es Hx ⟨⟨h_1, e_1⟩, ⟨h_2, e_2⟩, -⟩; refine Z0g (D := [(83, vs 1), (84, vs 2)]) rfl ?_; rw [h_1, h_2]; refine Z90 hn53 g87 rfl rfl rfl rfl rfl Z1x Z1p ?_; refine Z02 ?_; exact Z0x rfl ⟨rfl, rfl⟩ (Z07 _) (by show [(83, vs 1), (84, vs 2)] = _; rw [h_1, h_2])
        · rintro vs es Es Hx hb ⟨⟨h_1, e_1⟩, ⟨h_2, e_2⟩, ⟨h_6, e_6⟩, ⟨h_8, e_8⟩, -⟩ hHR; obtain rfl : hb = [(some b26, .cells (arr (intC .i64) xs52 ([])).toArray 3 (0, 0))] := hHR; refine Z0g (D := [(83, vs 1), (84, vs 2), (88, vs 6), (90, vs 8)]) rfl ?_; rw [h_1, h_2, h_6, h_8]; refine Z95 g87 rfl rfl rfl rfl tk0 Z1p ?_; refine Z02 ?_; exact Zfr (hb' := [(some b26, .cells (arr (intC .i64) (xs52.set r69.toNat r78) ([])).toArray 3 (0, 0))]) rfl rfl rfl (by repeat (first | exact Z07 _ | exact Z0a | apply Pick.none | refine Z03 (by repeat (first | exact Take.head _ _ | apply Take.tail)) ?_)) (by show [(83, vs 1), (84, vs 2), (88, vs 6), (90, vs 8)] = _; rw [h_1, h_2, h_6, h_8])
       · rintro vs es hb ⟨⟨h_0, e_0⟩, ⟨h_1, e_1⟩, ⟨h_2, e_2⟩, ⟨h_3, e_3⟩, ⟨h_4, e_4⟩, ⟨h_5, e_5⟩, ⟨h_6, e_6⟩, ⟨h_7, e_7⟩, ⟨h_8, e_8⟩, e_9, -⟩ hHR; obtain rfl : hb = [(some b26, .cells (arr (intC .i64) (xs52.set r69.toNat r78) ([])).toArray 3 (0, 0))] := hHR; refine Z0g (D := [(82, vs 0), (83, vs 1), (84, vs 2), (85, vs 3), (86, vs 4), (87, vs 5), (88, vs 6), (89, vs 7), (90, vs 8)]) rfl ?_; refine Z1s (H := [(some b26, .cells (arr (intC .i64) (xs52.set r69.toNat r78) ([])).toArray 3 (0, 0)), (some b48, .cells #[.slice (sb ob39) n40 c41] 27 (0, 0)), (ob39, .cells (arr (intC .i64) r79 j42).toArray 3 (0, 0)), (some b19, .cells #[.int .i64 n0.N, .int .i64 n0.S, .int .i64 n0.T, .slice (sb ob10) n11 c12, .slice (some ⟨b23, 0, none⟩) ((r8.getD n0.N.toNat 0).toNat) ((r8.getD n0.N.toNat 0).toNat), .slice (some ⟨b26, 0, none⟩) ((r8.getD n0.N.toNat 0).toNat) ((r8.getD n0.N.toNat 0).toNat), .slice (some ⟨b29, 0, none⟩) ((r8.getD n0.N.toNat 0).toNat) ((r8.getD n0.N.toNat 0).toNat), .slice (some ⟨b32, 0, none⟩) ((r8.getD n0.N.toNat 0).toNat) ((r8.getD n0.N.toNat 0).toNat), .slice (some ⟨b35, 0, none⟩) ((r8.getD n0.N.toNat 0).toNat) ((r8.getD n0.N.toNat 0).toNat)] 32 (0, 0)), (some b23, .cells (arr (intC .i64) r80.Head ([])).toArray 3 (0, 0)), (some b29, .cells (arr (intC .i64) r80.Cap ([])).toArray 2 (0, 0)), (some b32, .cells (arr (intC .i64) r80.Arc ([])).toArray 3 (0, 0)), (some b35, .cells (arr boolC r80.Back ([])).toArray 4 (0, 0)), (some b65, .cells #[.int .i64 ((n0.Arcs.getD x62.toNat default).fr), .int .i64 ((n0.Arcs.getD x62.toNat default).to), .int .i64 ((n0.Arcs.getD x62.toNat default).cap)] 67 (0, 0)), (some b3, .cells #[.int .i64 0, .int .i64 0, .int .i64 0, .slice none 0 0, .slice none 0 0, .slice none 0 0, .slice none 0 0, .slice none 0 0, .slice none 0 0] 32 (0, 0)), (ob10, .cells (arr (intC .i64) r8 j13).toArray 3 (0, 0))]) (by show _ ++ (_ ++ (es 0 ++ (es 1 ++ (es 2 ++ (es 3 ++ (es 4 ++ (es 5 ++ (es 6 ++ (es 7 ++ (es 8 ++ (es 9 ++ ([])))))))))))) = _; rw [e_0, e_1, e_2, e_3, e_4, e_5, e_6, e_7, e_8, e_9]; rfl) ?_; rw [h_0, h_1, h_2, h_3, h_4, h_5, h_6, h_7, h_8]; clear h_8 h_7 h_6 h_5 h_4 h_3 h_2 h_1 h_0 e_0 e_1 e_2 e_3 e_4 e_5 e_6 e_7 e_8 e_9; refine Z90 (List.length_set.trans hn53) g88 rfl rfl rfl rfl rfl Z1x Z1p ?_; refine Z95 g88 rfl rfl rfl rfl tk0 Z1p ?_; refine Z02 ?_; refine Z0j ?_; refine Z01 ?_; refine Z0l (Z00 (t := 2) rfl (Z00 (t := 5) rfl (Z00 (t := 8) rfl (Z00 (t := 54) rfl (Z00 (t := 55) rfl (Z00 (t := 56) rfl Z0b)))))) ?_; obtain ⟨g89, H⟩ := Z0e H; refine Z04 (ll := [0, 1]) rfl ?_; refine Z11 g89 rfl rfl rfl rfl rfl ?_; refine Z06 rfl rfl rfl rfl ?_; refine Z02 ?_; have H := Z1c H C_1; exact Zaq n_1 r80.Head ((xs52.set r69.toNat r78).set r78.toNat r69) r80.Cap r80.Arc r80.Back r79 (x62 + 1) ⟨H, hn83, (List.length_set.trans (List.length_set.trans hn53)), hn84, hn85, hn86, hn82⟩ (Nat.lt_succ_self _) (Z00 rfl (Z00 rfl (Z00 rfl (Z00 rfl (Z00 rfl (Z00 rfl Z0b)))))) (Z03 tk9 (Z03 tk3 (Z03 tk8 (Z03 tk3 (Z03 tk0 (Z03 tk2 (Z03 tk2 (Z03 tk2 (Z03 tk0 (Z03 tk0 Z0a))))))))))
     · refine Z16 rfl g63 ?_; refine T.exit ?_; refine Z0m ?_; have H := Z0v H C_1 ▸ K_1; refine Z0m ?_; refine Z13 ?_; exact Zn3 xs50 xs52 xs54 xs56 xs58 ⟨H, hn51, hn53, hn55, hn57, hn59⟩ (Z00 rfl (Z00 rfl Z0b)) (Z03 tk0 (Z03 tk0 (Z03 tk0 (Z03 tk0 (Z03 tk0 (Z03 tk0 (Z03 tk0 (Z03 tk0 Z0a))))))))
    · rintro xs90 xs92 xs94 xs96 xs98 ⟨H, hn91, hn93, hn95, hn97, hn99⟩; unfold Z7y at H; refine Z0d ?_; refine Z04 (ll := [0, 1, 2]) rfl ?_; refine Z0u rfl rfl rfl rfl Zfg mm1 rfl ?_; refine Z0t rfl rfl rfl rfl tk0 Zfb rfl rfl rfl ?_; refine Z09 rfl rfl rfl rfl ?_; refine Z02 ?_; refine Z01 ?_; refine T.ret ?_; obtain ⟨rfl, rfl⟩ := ret2 H; exact Z7f rfl rfl rfl rfl (Z29 rfl Zfg mm0 rfl) (Res.tmp rfl) (Z03 tk2 (Z03 tk2 (Z03 tk2 (Z03 tk2 (Z03 tk2 (Z03 tk2 Z0a)))))) ⟨ob10, n11, c12, j13, (some b23), ((r8.getD n0.N.toNat 0).toNat), ((r8.getD n0.N.toNat 0).toNat), ([]), (some b26), ((r8.getD n0.N.toNat 0).toNat), ((r8.getD n0.N.toNat 0).toNat), ([]), (some b29), ((r8.getD n0.N.toNat 0).toNat), ((r8.getD n0.N.toNat 0).toNat), ([]), (some b32), ((r8.getD n0.N.toNat 0).toNat), ((r8.getD n0.N.toNat 0).toNat), ([]), (some b35), ((r8.getD n0.N.toNat 0).toNat), ((r8.getD n0.N.toNat 0).toNat), ([]), rfl, rfl, hn14, hc15, hj16, hz17, hn91, (Nat.le_refl _), (Z30 _ _), Z49, hn93, (Nat.le_refl _), (Z30 _ _), Z49, hn95, (Nat.le_refl _), (Z30 _ _), Z49, hn97, (Nat.le_refl _), (Z30 _ _), Z49, hn99, (Nat.le_refl _), (Z30 _ _), Z49⟩
theorem Zah {c0 : Csr} {c0f3_b : Option Addr} {c0f3_n : Nat} {c0f3_c : Nat} {c0f4_b : Option Addr} {c0f4_n : Nat} {c0f4_c : Nat} {c0f5_b : Option Addr} {c0f5_n : Nat} {c0f5_c : Nat} {c0f6_b : Option Addr} {c0f6_n : Nat} {c0f6_c : Nat} {c0f7_b : Option Addr} {c0f7_n : Nat} {c0f7_c : Nat} {c0f8_b : Option Addr} {c0f8_n : Nat} {c0f8_c : Nat} (w : World) (h_c0f3 : RS w [] (intC .i64) 1 c0f3_b c0f3_n c0f3_c c0.First) (h_c0f4 : RS w [] (intC .i64) 1 c0f4_b c0f4_n c0f4_c c0.Head) (h_c0f5 : RS w [] (intC .i64) 1 c0f5_b c0f5_n c0f5_c c0.Rev) (h_c0f6 : RS w [] (intC .i64) 1 c0f6_b c0f6_n c0f6_c c0.Cap) (h_c0f7 : RS w [] (intC .i64) 1 c0f7_b c0f7_n c0f7_c c0.Arc) (h_c0f8 : RS w [] boolC 1 c0f8_b c0f8_n c0f8_c c0.Back) {r0 : Int} (H : Z9c c0 = some r0) : Fnc Try.prog 75 #[.agg #[.int .i64 c0.N, .int .i64 c0.S, .int .i64 c0.T, .slice c0f3_b c0f3_n c0f3_c, .slice c0f4_b c0f4_n c0f4_c, .slice c0f5_b c0f5_n c0f5_c, .slice c0f6_b c0f6_n c0f6_c, .slice c0f7_b c0f7_n c0f7_c, .slice c0f8_b c0f8_n c0f8_c]] w [] (fun v N => v = .int .i64 r0 ∧ N = []) := by
 unfold Z9c at H; refine Fnc.enter (vs := [.agg #[.int .i64 c0.N, .int .i64 c0.S, .int .i64 c0.T, .slice c0f3_b c0f3_n c0f3_c, .slice c0f4_b c0f4_n c0f4_c, .slice c0f5_b c0f5_n c0f5_c, .slice c0f6_b c0f6_n c0f6_c, .slice c0f7_b c0f7_n c0f7_c, .slice c0f8_b c0f8_n c0f8_c]]) Try.func75 rfl rfl (Inv.refl w) ?_; refine Z0d ?_; refine Z04 (ll := [0, 1]) rfl ?_; refine Z1v rfl rfl rfl rfl ?_; intro b1; refine Z09 rfl rfl rfl rfl ?_; refine Z02 ?_; refine Z01 ?_; refine Z0d ?_; refine Z04 (ll := [0, 1, 2, 3]) rfl ?_; refine Z05 rfl rfl rfl rfl Zbo ?_; refine Z0c rfl rfl rfl rfl Z6r mm0 rfl ?_; refine Z1f (xs := c0.Head) h_c0f4.len rfl rfl rfl rfl rfl Z1x ?_; refine Z09 rfl rfl rfl rfl ?_; refine Z02 ?_; refine Z01 ?_; refine T.ret ?_; obtain rfl := ret1 H; exact Z12 rfl rfl rfl rfl (Res.tmp rfl) Z0a ⟨rfl, rfl⟩
end Go.Proofs.Ytjeenmabclghoaa.Ax
