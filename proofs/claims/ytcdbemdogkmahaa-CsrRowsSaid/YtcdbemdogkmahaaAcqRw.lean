/- The layer of triples: rows of rows that are read only. -/
import Derived.Test.YtcdbemdogkmahaaAcqRs6
import Derived.Test.YtcdbemdogkmahaaAcqOpen2
namespace Go.Acq
open Go Go.RowKit
/-- a slice's own words -/
abbrev SM := Option Addr × Nat × Nat
def smC (m : SM) : List Value := [.slice m.1 m.2.1 m.2.2]
/-- a row of rows that is read -/
structure RW {α : Type} (w : World) (M : List Nat) (f : α → List Value) (s : Nat) (base : Option Addr) (n c : Nat) (ms : List SM) (xss : List (List α)) : Prop where
  rs : RS w M smC 1 base n c ms
  eqlen : ms.length = xss.length
  row : ∀ i, i < ms.length → RS w M f s (ms.getD i default).1 (ms.getD i default).2.1 (ms.getD i default).2.2 (xss.getD i [])
section
variable {α : Type} {w w0 : World} {M M' : List Nat} {f : α → List Value} {s n c : Nat} {base : Option Addr} {ms : List SM} {xss : List (List α)} {H Hm R : Heap}
theorem RW.len (h : RW w M f s base n c ms xss) : xss.length = n := by rw [← h.eqlen]; exact h.rs.len
theorem RW.cap (h : RW w M f s base n c ms xss) : n ≤ c := h.rs.cap
theorem RW.nil (w : World) (M : List Nat) : RW w M f s none 0 0 [] ([] : List (List α)) := ⟨RS.nil _ _ (fun _ => rfl), rfl, fun i hi => by simp at hi⟩
theorem RW.mono (h : RW w0 M f s base n c ms xss) (hi : Inv w0 M w H) : RW w [] f s base n c ms xss := ⟨h.rs.mono hi, h.eqlen, fun i hl => (h.row i hl).mono hi⟩
theorem RW.monoM (h : RW w0 M f s base n c ms xss) (hs : 0 < s) (hi : Inv w0 M w H) (hp : List.Perm H (Hm ++ R)) (hM : Hm.filterMap (·.1) = M') : RW w M' f s base n c ms xss :=
  ⟨h.rs.monoM (by decide) hi hp hM, h.eqlen, fun i hl => (h.row i hl).monoM hs hi hp hM⟩
theorem getD_take {α : Type} {xs : List α} {d : α} {i k : Nat} (h : i < k) : (xs.take k).getD i d = xs.getD i d := by
  simp [List.getD_eq_getElem?_getD, List.getElem?_take, h]
theorem getD_drop {α : Type} {xs : List α} {d : α} {i k : Nat} : (xs.drop k).getD i d = xs.getD (k + i) d := by
  simp [List.getD_eq_getElem?_getD]
theorem RW.take (h : RW w M f s base n c ms xss) {p : Int} (hp : 0 ≤ p ∧ p ≤ (xss.length : Int)) : RW w M f s base p.toNat c (ms.take p.toNat) (xss.take p.toNat) :=
  ⟨h.rs.take (by rw [h.eqlen]; exact hp), by rw [List.length_take, List.length_take, h.eqlen], fun i hi => by
    rw [List.length_take] at hi
    rw [getD_take (by omega), getD_take (by omega)]; exact h.row i (by omega)⟩
theorem RW.drop (h : RW w M f s base n c ms xss) {p : Int} (hp : 0 ≤ p ∧ p ≤ (xss.length : Int)) : RW w M f s (lowB base p.toNat c 1) (n - p.toNat) (c - p.toNat) (ms.drop p.toNat) (xss.drop p.toNat) :=
  ⟨h.rs.drop (by rw [h.eqlen]; exact hp), by rw [List.length_drop, List.length_drop, h.eqlen], fun i hi => by
    rw [List.length_drop] at hi
    rw [getD_drop, getD_drop]; exact h.row _ (by omega)⟩
theorem RW.at (h : RW w M f s base n c ms xss) {p : Int} (hp : inb p xss.length) : RS w M f s (ms.getD p.toNat default).1 (ms.getD p.toNat default).2.1 (ms.getD p.toNat default).2.2 (xss.getD p.toNat []) :=
  h.row _ (by rw [h.eqlen]; exact inb_lt hp)
theorem RW.inb (h : RW w M f s base n c ms xss) {p : Int} (hp : inb p xss.length) : inb p ms.length := by rw [h.eqlen]; exact hp
end
section rules
variable {C : Cx} {ops : Array Oper} {Q : Exit → Act → World → Prop} {l : List Nat} {E : Env} {H R : Heap} {i d : Nat} {ty : TypeId} {pos : String} {af : Array Edge} {g : Option (Nat × Bool)}
theorem TO.ldWR {α : Type} {f : α → List Value} {s : Nat} {t : TypeId} {x : Operand} {base : Option Addr} {n c : Nat} {p : Int} {ms : List SM} {xss : List (List α)} (hr : RW C.w0 C.M f s base n c ms xss) (hp : inb p xss.length) (ho : ops[i]? = some ⟨some d, .load t x, ty, pos, af, g⟩) (hg : gdB ops E g = true) (hd : Nat.ble (d + 1) C.n = true)
    (hx : ev E x = some (.pointer (some (ea base (p.toNat * 1))))) (hT : scalT C.P t = true)
    (kk : TO C ops Q l ((d, .slice (ms.getD p.toNat default).1 (ms.getD p.toNat default).2.1 (ms.getD p.toNat default).2.2) :: E) H) : TO C ops Q (i :: l) E H :=
  TO.load ho hg hd hx hT (fun w hi => by
    have := (hr.rs.ro.monoM hr.rs.far hi).at default (o := p.toNat) (c := 0) (inb_lt (hr.inb hp)) (by omega)
    simpa [smC] using this) kk
end rules
open Go.ChangeShapes Go.WideShapes Go.Deep Go.Joins
section
variable {H : Type} {enc : TypeId × Value → H} {P : Program} {w : World} {base : Nat} {spare : Nat → Bool} {held : Bool}
/-- a row of rows of numbers -/
theorem open_rows {t r e : TypeId} {k : IntKind} {fuel : Nat} {v : Value} {x : DataW H × List MemPlace} (ht : P.underlying t = some (.slice r)) (hcr : P.cellsOf r = 1) (hr : P.underlying r = some (.slice e)) (he : P.underlying e = some (.int k)) (hc : P.cellsOf e = 1)
    (h : DataW.trod enc P w base spare held fuel t [v] = some x) :
    ∃ (b : Option Addr) (n c : Nat) (ms : List SM) (xss : List (List Int)), v = .slice b n c ∧ RW w [] (intC k) 1 b n c ms xss ∧ n ≤ 9223372036854775807 ∧ ∀ xs, xs ∈ xss → xs.length ≤ 9223372036854775807 ∧ ∀ y, y ∈ xs → (Lit.int k y).wf = true := by
  rcases open_slice1 ht hcr h with ⟨hcs, _⟩ | ⟨a, l, c, m, n0, V, D, Pl, hcs, _, hl, hm, hmm, _, hi⟩
  · injection hcs with h1 _
    exact ⟨none, 0, 0, [], [], h1, RW.nil _ _, by omega, fun y hy => by cases hy⟩
  · injection hcs with h1 _
    have hlm : l ≤ m := by rw [hmm]; split <;> omega
    have key : ∀ i, i < l → ∃ q : SM × List Int, w.cell? (a.add i) = some (.slice q.1.1 q.1.2.1 q.1.2.2) ∧ RS w [] (intC k) 1 q.1.1 q.1.2.1 q.1.2.2 q.2 ∧ q.2.length ≤ 9223372036854775807 ∧ ∀ y, y ∈ q.2 → (Lit.int k y).wf = true := by
      intro i hil
      obtain ⟨h2, h3⟩ := hi i (by omega)
      obtain ⟨b, n, c', xs, hv, ro, hnc, hn, hx⟩ := open_row hr he hc h3
      refine ⟨((b, n, c'), xs), by rw [h2, hv], ⟨ro, fun _ _ _ => by simp, hnc⟩, by simp only; rw [ro.len]; exact hn, hx⟩
    let g : Nat → SM × List Int := fun i => if hil : i < l then Classical.choose (key i hil) else default
    have hg : ∀ i (hil : i < l), g i = Classical.choose (key i hil) := fun i hil => by simp only [g, dif_pos hil]
    have hgd : ∀ {β : Type} (z : SM × List Int → β) (d : β) (i : Nat), i < l → (((List.range l).map g).map z).getD i d = z (g i) := fun z d i hil => by
      rw [List.getD_eq_getElem?_getD, List.getElem?_map, List.getElem?_map, List.getElem?_range hil]; rfl
    refine ⟨some a, l, c, ((List.range l).map g).map (·.1), ((List.range l).map g).map (·.2), h1, ⟨⟨⟨by simp, (fun e => by cases e), fun _ => rfl, fun o q ho hq y hy => ?_⟩, fun _ _ _ => by simp, hl⟩, by simp, fun i hi => ?_⟩, by unfold maxLen at hm; omega, fun xs hxs => ?_⟩
    · simp only [List.length_map, List.length_range] at ho
      have hq0 : q = 0 := by omega
      subst hq0
      have hs := Classical.choose_spec (key o ho)
      rw [← hg o ho] at hs
      rw [List.getElem?_map, List.getElem?_map, List.getElem?_range ho] at hy
      simp only [Option.map_some, Option.some.injEq] at hy
      subst hy
      simpa [ea, smC] using hs.1
    · simp only [List.length_map, List.length_range] at hi
      have hs := Classical.choose_spec (key i hi)
      rw [← hg i hi] at hs
      rw [hgd (·.1) default i hi, hgd (·.2) [] i hi]
      exact hs.2.1
    · obtain ⟨q, hq, rfl⟩ := List.mem_map.1 hxs
      obtain ⟨i, hil, rfl⟩ := List.mem_map.1 hq
      have hil := List.mem_range.1 hil
      have hs := Classical.choose_spec (key i hil)
      rw [← hg i hil] at hs
      exact ⟨hs.2.2.1, hs.2.2.2⟩
end
end Go.Acq
namespace Go.Acq
open Go Go.RowKit
/-- the end of an effect that gives a value, too -/
theorem X.obEd {C : Cx} {ops : Array Oper} {Q : Exit → Act → World → Prop} {S : List Sp} {HR : Nat → List Value → Heap → Prop} {W Es B B' : Env} {Hc Hx : Heap} {i k d : Nat} {v : Value} {vl : List Value} {F : Value → List Value} {De hb' H' : Heap} (hs : slotG ops i = some d) (hr : relG S i vl v []) (hh : HR k (F v) hb')
    (hH : Pick (hb' ++ (Hc ++ (De ++ Hx))) H') (hB : B = B') :
    X C (fun e a w => match e with
      | .normal => ∃ v hb', relG S i vl v [] ∧ HR k (F v) hb' ∧ Fits C.n C.D (putG (slotG ops i) v (B ++ (W ++ Es))) a ∧ Inv C.w0 C.M w (hb' ++ (Hc ++ (De ++ Hx)))
      | e => Q e a w) .normal ((d, v) :: (B' ++ (W ++ Es))) H' := by
  subst hB
  exact fun _ _ hf hi => ⟨v, hb', hr, hh, by rw [hs]; exact hf, hi.pick hH⟩
end Go.Acq
