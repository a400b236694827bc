/- Arguments opened: nets, arcs, rows of numbers. -/
import Derived.Test.YtcdbemdogkmahaaAcqPure
import Derived.Deep.Slices
import Derived.Deep.Fields
import Derived.ChangeSame
import Derived.Lib.SmallJoins
import Derived.ProofKit
namespace Go.Acq
open Go Go.RowKit Go.ChangeShapes Go.WideShapes Go.Deep Go.Joins
section
variable {H : Type} {enc : TypeId × Value → H} {P : Program} {w : World} {base : Nat} {spare : Nat → Bool} {held : Bool}
theorem open_slice_fields {t e : TypeId} {fs : Array Field} {fuel : Nat} {cs : List Value} {x : DataW H × List MemPlace} (ht : P.underlying t = some (.slice e)) (he : P.underlying e = some (.struct fs))
    (hone : oneCellFields P fs = true) (hC : P.cellsOf e = fs.size) (h : DataW.trod enc P w base spare held fuel t cs = some x) :
    (cs = [.slice none 0 0] ∧ x = (.nil, [])) ∨
    ∃ (a : Addr) (len cap m : Nat) (D : Nat → DataW H) (Pl : Nat → List MemPlace), cs = [.slice (some a) len cap] ∧ base ≤ a.block ∧ len ≤ cap ∧ cap ≤ maxLen ∧ m = (if spare a.block then cap else len) ∧
      x = (.slice ((List.range len).map D) ((List.range (m - len)).map fun j => D (len + j)), MemPlace.row a (m * fs.size) ++ (List.range m).flatMap Pl) ∧
      ∀ i, i < m → ∃ (ys : List (DataW H × List MemPlace)) (n : Nat), D i = .agg (ys.map (·.1)) ∧ Pl i = ys.flatMap (·.2) ∧ ys.length = fs.size ∧
        ∀ (j : Nat) (f : Field), fs[j]? = some f → ∃ (v : Value) (y : DataW H × List MemPlace), w.cell? (a.add (i * fs.size + j)) = some v ∧ ys[j]? = some y ∧ DataW.trod enc P w base spare held n f.type [v] = some y := by
  rcases open_slice ht h with h0 | ⟨a, len, cap, m, n, D, Pl, hcs, hb, hl, hm, hmm, hx, hi⟩
  · exact .inl h0
  · refine .inr ⟨a, len, cap, m, D, Pl, hcs, hb, hl, hm, hmm, by rw [hC] at hx; exact hx, fun i him => ?_⟩
    obtain ⟨cs', hc, ht'⟩ := hi i him
    rw [hC] at hc
    obtain ⟨ys, n', hn', hy, hlen, hyl, hf⟩ := DataW.trod_struct he ht'
    obtain ⟨_, hcl, hat⟩ := World.cells?_some hc
    simp only [Prod.mk.injEq] at hy
    refine ⟨ys, n', hy.1, hy.2, hyl, fun j f hj => ?_⟩
    obtain ⟨ho, hk⟩ := hone_of hone j f hj
    have hjl : j < fs.size := (Array.getElem?_eq_some_iff.1 hj).1
    have hcell := hat j hjl
    have hv : cs'[j]? = some (cs'[j]'(by omega)) := List.getElem?_eq_getElem (by omega)
    have h1 := hf j f hj
    rw [ho, hk] at h1
    have hone' : (cs'.drop j).take 1 = [cs'[j]'(by omega)] := by
      rw [List.drop_eq_getElem_cons (by omega)]
      rfl
    rw [hone'] at h1
    have hys : ys[j]? = some (ys[j]'(by omega)) := List.getElem?_eq_getElem (by omega)
    refine ⟨_, _, ?_, hys, h1.trans hys⟩
    rw [← Go.Deep.add_add, hcell, hv]
end
section
variable {H : Type} {enc : TypeId × Value → H} {P : Program} {w : World} {base : Nat} {spare : Nat → Bool} {held : Bool}
def fitI (x : Int) : Prop := -9223372036854775808 ≤ x ∧ x ≤ 9223372036854775807
theorem fitI_of {x : Int} (h : (Lit.int .i64 x).wf = true) : fitI x := by
  unfold fitI; simp [Lit.wf, IntKind.min, IntKind.max, IntKind.signed, IntKind.bits] at h; omega
/-- a row of arcs -/
theorem open_arcs {t e : TypeId} {fs : Array Field} {f0 f1 f2 : Field} {fuel : Nat} {v : Value} {x : DataW H × List MemPlace} (ht : P.underlying t = some (.slice e)) (he : P.underlying e = some (.struct fs)) (hfs : fs = #[f0, f1, f2])
    (hone : oneCellFields P fs = true) (hC : P.cellsOf e = fs.size) (k0 : P.underlying f0.type = some (.int .i64)) (k1 : P.underlying f1.type = some (.int .i64)) (k2 : P.underlying f2.type = some (.int .i64))
    (h : DataW.trod enc P w base spare held fuel t [v] = some x) :
    ∃ (b : Option Addr) (n c : Nat) (al : List Arc), v = .slice b n c ∧ RO w arcC 3 b n al ∧ n ≤ c ∧ n ≤ 9223372036854775807 ∧ ∀ a, a ∈ al → fitI a.fr ∧ fitI a.to ∧ fitI a.cap := by
  rcases open_slice_fields ht he hone hC h with ⟨hcs, _⟩ | ⟨a, l, c, m, D, Pl, hcs, _, hl, hm, hmm, _, hi⟩
  · injection hcs with h1 _
    exact ⟨none, 0, 0, [], h1, RO.nil' w (fun _ => rfl), Nat.le_refl _, by omega, fun y hy => by cases hy⟩
  · injection hcs with h1 _
    have hlm : l ≤ m := by rw [hmm]; split <;> omega
    have key : ∀ i, i < l → ∃ q : Arc, w.cell? (a.add (i * 3 + 0)) = some (.int .i64 q.fr) ∧ w.cell? (a.add (i * 3 + 1)) = some (.int .i64 q.to) ∧ w.cell? (a.add (i * 3 + 2)) = some (.int .i64 q.cap) ∧ fitI q.fr ∧ fitI q.to ∧ fitI q.cap := by
      intro i hil
      obtain ⟨ys, n, _, _, _, hf⟩ := hi i (by omega)
      subst hfs
      obtain ⟨v0, y0, c0, _, t0⟩ := hf 0 f0 rfl
      obtain ⟨v1, y1, c1, _, t1⟩ := hf 1 f1 rfl
      obtain ⟨v2, y2, c2, _, t2⟩ := hf 2 f2 rfl
      obtain ⟨n0, e0, _, w0⟩ := DataW.trod_int k0 t0
      obtain ⟨n1, e1, _, w1⟩ := DataW.trod_int k1 t1
      obtain ⟨n2, e2, _, w2⟩ := DataW.trod_int k2 t2
      injection e0 with e0 _; injection e1 with e1 _; injection e2 with e2 _
      subst e0; subst e1; subst e2
      exact ⟨⟨n0, n1, n2⟩, c0, c1, c2, fitI_of w0, fitI_of w1, fitI_of w2⟩
    let g : Nat → Arc := fun i => if hil : i < l then Classical.choose (key i hil) else default
    have hg : ∀ i (hil : i < l), g i = Classical.choose (key i hil) := fun i hil => by simp only [g, dif_pos hil]
    refine ⟨some a, l, c, (List.range l).map g, h1, ⟨by simp, (fun e => by cases e), arcC_len, fun o q ho hq x hx => ?_⟩, hl, by unfold maxLen at hm; omega, fun y hy => ?_⟩
    · simp only [List.length_map, List.length_range] at ho
      have hs := Classical.choose_spec (key o ho)
      rw [← hg o ho] at hs
      have hxo : x = g o := by
        rw [List.getElem?_map, List.getElem?_range ho] at hx
        simpa using hx.symm
      subst hxo
      rcases (show q = 0 ∨ q = 1 ∨ q = 2 by omega) with rfl | rfl | rfl
      · exact hs.1
      · exact hs.2.1
      · exact hs.2.2.1
    · obtain ⟨i, hil, rfl⟩ := List.mem_map.1 hy
      have hil := List.mem_range.1 hil
      have hs := Classical.choose_spec (key i hil)
      rw [← hg i hil] at hs
      exact hs.2.2.2
end
end Go.Acq
