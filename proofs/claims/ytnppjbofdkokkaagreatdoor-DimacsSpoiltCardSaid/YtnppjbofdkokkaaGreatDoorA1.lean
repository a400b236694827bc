/- Texts of this claim, one behind the other. -/
import Derived.WalkKit
import Derived.RangeFuncIn
import Derived.CallsIn
import Derived.Deep.AppendSrc
import Derived.Deep.MidRow
import Derived.Great.BuildSlice
import Derived.KernelRfl
import Derived.OrdersIn
import Derived.Maps.RangeRun
import Derived.Laws.Bits64b
import Derived.Deep.Slices
import Derived.Deep.Fields
import Derived.ChangeSame
import Derived.Lib.SmallJoins
import Derived.ProofKit
import Derived.ChangeArms
import Derived.RangeFuncSeq
import Derived.Conc.LoneCalls
import Derived.Conc.LoneSelectN
import Derived.Conc.SmallLaws
import Derived.Laws.StructEq
import Derived.Scope
import Derived.ChangeKeysEq
set_option linter.unusedVariables false
set_option linter.unusedSimpArgs false
namespace Go.Acq
open Go Go.RowKit
theorem Yy {α β : Type} {a : α} {b : β} : a = a ∧ b = b := ⟨rfl, rfl⟩
theorem Zl {α β γ : Type} {a : α} {b : β} {c : γ} : a = a ∧ b = b ∧ c = c := ⟨rfl, rfl, rfl⟩
theorem Za {α β γ δ : Type} {a : α} {b : β} {c : γ} {d : δ} : a = a ∧ b = b ∧ c = c ∧ d = d := ⟨rfl, rfl, rfl, rfl⟩
theorem Zb {α β γ δ ε : Type} {a : α} {b : β} {c : γ} {d : δ} {e : ε} : a = a ∧ b = b ∧ c = c ∧ d = d ∧ e = e := ⟨rfl, rfl, rfl, rfl, rfl⟩
theorem Zu {α β γ δ ε ζ : Type} {a : α} {b : β} {c : γ} {d : δ} {e : ε} {f : ζ} : a = a ∧ b = b ∧ c = c ∧ d = d ∧ e = e ∧ f = f := ⟨rfl, rfl, rfl, rfl, rfl, rfl⟩
theorem rr7 {α β γ δ ε ζ η : Type} {a : α} {b : β} {c : γ} {d : δ} {e : ε} {f : ζ} {g : η} : a = a ∧ b = b ∧ c = c ∧ d = d ∧ e = e ∧ f = f ∧ g = g := ⟨rfl, rfl, rfl, rfl, rfl, rfl, rfl⟩
theorem rr8 {α β γ δ ε ζ η θ : Type} {a : α} {b : β} {c : γ} {d : δ} {e : ε} {f : ζ} {g : η} {h : θ} : a = a ∧ b = b ∧ c = c ∧ d = d ∧ e = e ∧ f = f ∧ g = g ∧ h = h := ⟨rfl, rfl, rfl, rfl, rfl, rfl, rfl, rfl⟩
theorem rr9 {α β γ δ ε ζ η θ ι : Type} {a : α} {b : β} {c : γ} {d : δ} {e : ε} {f : ζ} {g : η} {h : θ} {i : ι} : a = a ∧ b = b ∧ c = c ∧ d = d ∧ e = e ∧ f = f ∧ g = g ∧ h = h ∧ i = i := ⟨rfl, rfl, rfl, rfl, rfl, rfl, rfl, rfl, rfl⟩
abbrev Env := List (Nat × Value)
abbrev Heap := List (Option Nat × Obj)
def find : Env → Nat → Option Value
  | [], _ => none
  | (d, v) :: E, t => cond (Nat.beq d t) (some v) (find E t)
def ev (E : Env) : Operand → Option Value
  | .tmp t => find E t
  | .const v => some v
  | .global g => some (.pointer (some ⟨g, 0, none⟩))
  | .func f => some (.func (.func f) #[] #[])
structure Fits (n : Nat) (D : List Deferred) (E : Env) (a : Act) : Prop where
  size : a.tmps.size = n
  defers : a.defers = D
  get : ∀ t v, find E t = some v → a.tmps.getD t undef = v
section fits
variable {n : Nat} {D : List Deferred} {E E' : Env} {a : Act} {x : Operand} {v : Value} {d : Nat}
theorem Fits.ev (h : Fits n D E a) (hx : ev E x = some v) : a.eval x = v := by
 cases x with
 | tmp t => exact h.get t v hx
 | const u => simpa [Acq.ev, Act.eval] using hx
 | global g => simpa [Acq.ev, Act.eval] using hx
 | func f => simpa [Acq.ev, Act.eval] using hx
theorem Uu (d t : Nat) (v : Value) (E : Env) : find ((d, v) :: E) t = if d = t then some v else find E t := by
 simp only [find]
 by_cases h : d = t
 · subst h; simp
 ·
  rw [if_neg h]
  have : Nat.beq d t = false := by
   cases hb : Nat.beq d t
   · rfl
   · exact absurd (Nat.eq_of_beq_eq_true hb) h
  simp [this]
theorem Fits.put (h : Fits n D E a) (hd : Nat.ble (d + 1) n = true) (v : Value) : Fits n D ((d, v) :: E) (a.put (some d) v) := by
 have hdn : d < n := Nat.le_of_ble_eq_true hd
 refine ⟨by simpa [Act.put] using h.size, h.defers, fun t u hu => ?_⟩
 rw [Uu] at hu
 by_cases e : d = t
 ·
  subst e
  rw [if_pos rfl] at hu
  simp only [Act.put, Array.getD_eq_getD_getElem?]
  have : d < a.tmps.size := by rw [h.size]; exact hdn
  simp [this]
  simpa using hu
 ·
  rw [if_neg e] at hu
  have := h.get t u hu
  simp only [Act.put, Array.getD_eq_getD_getElem?] at *
  simp [e, this]
theorem Fits.putNone (h : Fits n D E a) (v : Value) : Fits n D E (a.put none v) := h
theorem Fits.weak (h : Fits n D E a) (hs : ∀ t v, find E' t = some v → find E t = some v) : Fits n D E' a := ⟨h.size, h.defers, fun t v hv => h.get t v (hs t v hv)⟩
end fits
def AllF : Env → Env → Prop
  | [], _ => True
  | (t, v) :: L, E => find E t = some v ∧ AllF L E
theorem AllF.sub : ∀ {L E : Env}, AllF L E → ∀ t v, find L t = some v → find E t = some v
 | [], _, _, t, v, h => by simp [find] at h
 | (d, u) :: L, E, ⟨h1, h2⟩, t, v, h => by
  rw [Uu] at h
  by_cases e : d = t
  · subst e; rw [if_pos rfl] at h; rw [h1]; exact h
  · rw [if_neg e] at h; exact AllF.sub h2 t v h
def wo : List Nat → Env → Env
  | _, [] => []
  | D, (t, v) :: E => cond (D.any (Nat.beq t)) (wo D E) ((t, v) :: wo (t :: D) E)
theorem any_beq {t : Nat} : ∀ {D : List Nat}, D.any (Nat.beq t) = true ↔ t ∈ D
 | [] => by simp
 | d :: D => by
  simp only [List.any_cons, Bool.or_eq_true, List.mem_cons, any_beq]
  constructor
  ·
   rintro (h | h)
   · exact .inl (Nat.eq_of_beq_eq_true h)
   · exact .inr h
  ·
   rintro (rfl | h)
   · exact .inl (by simp)
   · exact .inr h
theorem Z5e : ∀ (E : Env) (D : List Nat) (t : Nat) (v : Value), find (wo D E) t = some v → t ∉ D ∧ find E t = some v
 | [], D, t, v, h => by simp [wo, find] at h
 | (d, u) :: E, D, t, v, h => by
  simp only [wo] at h
  cases hb : D.any (Nat.beq d) with
  | true =>
   rw [hb] at h
   obtain ⟨h1, h2⟩ := Z5e E D t v h
   refine ⟨h1, ?_⟩
   rw [Uu, if_neg]
   · exact h2
   · rintro rfl; exact h1 (any_beq.1 hb)
  | false =>
   rw [hb] at h
   simp only [cond_false] at h
   rw [Uu] at h
   by_cases e : d = t
   ·
    subst e
    rw [if_pos rfl] at h
    refine ⟨fun hm => ?_, by rw [Uu, if_pos rfl]; exact h⟩
    rw [any_beq.2 hm] at hb; cases hb
   ·
    rw [if_neg e] at h
    obtain ⟨h1, h2⟩ := Z5e E (d :: D) t v h
    exact ⟨fun hm => h1 (.tail _ hm), by rw [Uu, if_neg e]; exact h2⟩
theorem Z14 (L E : Env) (t : Nat) : find (L ++ E) t = (find L t).or (find E t) := by
 induction L with
 | nil => simp [find]
 | cons p L ih =>
  obtain ⟨d, v⟩ := p
  rw [List.cons_append, Uu, Uu]
  split
  · simp
  · exact ih
structure Inv (w0 : World) (M : List Nat) (w : World) (H : Heap) : Prop where
  os : w.os = w0.os
  tape : w.tape = w0.tape
  output : w.output = w0.output
  size : w0.heap.size ≤ w.heap.size
  keep : ∀ b, b < w0.heap.size → b ∉ M → w.heap[b]? = w0.heap[b]?
  own : ∀ b o, (some b, o) ∈ H → w.heap[b]? = some o
  low : ∀ b o, (some b, o) ∈ H → w0.heap.size ≤ b ∨ b ∈ M
  apart : (H.filterMap (·.1)).Nodup
section inv
variable {w0 w w' w'' : World} {M : List Nat} {H H' N R : Heap} {b : Nat} {o o' : Obj}
theorem Inv.below (h : Inv w0 [] w H) : Below w0.heap.size w0 w := ⟨h.os, h.tape, h.output, h.size, fun k hk => h.keep k hk (by simp)⟩
theorem Inv.refl (w : World) : Inv w [] w [] := ⟨rfl, rfl, rfl, Nat.le_refl _, fun _ _ _ => rfl, by simp, by simp, by simp⟩
theorem Nn {b : Nat} {o : Obj} {H : Heap} (h : (some b, o) ∈ H) : b ∈ H.filterMap (·.1) := List.mem_filterMap.2 ⟨_, h, rfl⟩
theorem Gl {b : Nat} {H : Heap} (h : b ∈ H.filterMap (·.1)) : ∃ o, (some b, o) ∈ H := by
 obtain ⟨⟨x, o⟩, hm, hx⟩ := List.mem_filterMap.1 h
 simp only at hx
 subst hx
 exact ⟨o, hm⟩
theorem Inv.lt (h : Inv w0 M w H) (hp : (some b, o) ∈ H) : b < w.heap.size := (Array.getElem?_eq_some_iff.1 (h.own b o hp)).1
theorem Inv.ofHeap (h : Inv w0 M w H) (hh : w'.heap = w.heap) (h1 : w'.os = w.os) (h2 : w'.tape = w.tape) (h3 : w'.output = w.output) : Inv w0 M w' H :=
 ⟨h1.trans h.os, h2.trans h.tape, h3.trans h.output, by rw [hh]; exact h.size, by rw [hh]; exact h.keep, by rw [hh]; exact h.own, h.low, h.apart⟩
theorem Inv.drew (h : Inv w0 M w H) : Inv w0 M w.drew H := h.ofHeap rfl rfl rfl rfl
theorem Inv.alloc (h : Inv w0 M w H) (o : Obj) : Inv w0 M (w.alloc o) ((some w.heap.size, o) :: H) := by
 have hsz : (w.alloc o).heap.size = w.heap.size + 1 := World.size_alloc ..
 refine ⟨h.os, h.tape, h.output, by rw [hsz]; have := h.size; omega, fun b hb hm => ?_, fun b o' hp => ?_, fun b o' hp => ?_, ?_⟩
 · rw [Below.heap_alloc _ _ _ (by have := h.size; omega)]; exact h.keep b hb hm
 ·
  rcases List.mem_cons.1 hp with e | hp
  ·
   injection e with e1 e2
   injection e1 with e1
   subst e1; subst e2
   show (w.heap.push o')[w.heap.size]? = some o'
   simp
  · rw [Below.heap_alloc _ _ _ (h.lt hp)]; exact h.own b o' hp
 ·
  rcases List.mem_cons.1 hp with e | hp
  ·
   injection e with e1 e2
   injection e1 with e1
   subst e1
   exact .inl h.size
  · exact h.low b o' hp
 ·
  simp only [List.filterMap_cons, List.nodup_cons]
  refine ⟨fun hm => ?_, h.apart⟩
  obtain ⟨o', hm⟩ := Gl hm
  have := h.lt hm
  omega
theorem Inv.addNone (h : Inv w0 M w H) (o : Obj) : Inv w0 M w ((none, o) :: H) :=
 ⟨h.os, h.tape, h.output, h.size, h.keep, fun b o' hp => h.own b o' (by simpa using hp), fun b o' hp => h.low b o' (by simpa using hp), by simpa using h.apart⟩
def Take (p : Option Nat × Obj) (H R : Heap) : Prop := List.Perm H (p :: R)
theorem Take.head (p : Option Nat × Obj) (H : Heap) : Take p (p :: H) H := List.Perm.refl _
theorem Take.tail {p q : Option Nat × Obj} (h : Take p H R) : Take p (q :: H) (q :: R) :=
 (List.Perm.cons q h).trans (List.Perm.swap p q R)
theorem Take.mem {p : Option Nat × Obj} (h : Take p H R) : p ∈ H := (List.Perm.mem_iff h).2 (.head _)
def Pick (H' H : Heap) : Prop := ∃ R ns : Heap, (∀ x, x ∈ ns → x.1 = none) ∧ List.Perm (H ++ ns) (H' ++ R)
theorem Zi : Pick [] H := ⟨H, [], by simp, by simp⟩
theorem Zv (H : Heap) : Pick H H := ⟨[], [], by simp, by simp⟩
theorem Zf {p : Option Nat × Obj} (h : Take p H R) (hp : Pick H' R) : Pick (p :: H') H := by
 obtain ⟨S, ns, hn, hS⟩ := hp
 exact ⟨S, ns, hn, (List.Perm.append_right ns h).trans (List.Perm.cons p hS)⟩
theorem Pick.none {o : Obj} (hp : Pick H' H) : Pick ((none, o) :: H') H := by
 obtain ⟨S, ns, hn, hS⟩ := hp
 refine ⟨S, (Option.none, o) :: ns, fun x hx => ?_, ?_⟩
 ·
  rcases List.mem_cons.1 hx with rfl | hx
  · rfl
  · exact hn x hx
 · exact List.perm_middle.trans (List.Perm.cons _ hS)
theorem Rv {S : Heap} (h : List.Perm H (H' ++ S)) : Pick H' H := ⟨S, [], by simp, by simpa using h⟩
theorem Inv.perm (h : Inv w0 M w H) (hp : List.Perm H H') : Inv w0 M w H' :=
 ⟨h.os, h.tape, h.output, h.size, h.keep, fun b o hm => h.own b o ((List.Perm.mem_iff hp).2 hm), fun b o hm => h.low b o ((List.Perm.mem_iff hp).2 hm), (List.Perm.nodup_iff (hp.filterMap _)).1 h.apart⟩
theorem Inv.left (h : Inv w0 M w (H ++ R)) : Inv w0 M w H :=
 ⟨h.os, h.tape, h.output, h.size, h.keep, fun b o hm => h.own b o (List.mem_append_left _ hm), fun b o hm => h.low b o (List.mem_append_left _ hm), by
  have := h.apart
  rw [List.filterMap_append] at this
  exact (List.nodup_append.1 this).1⟩
theorem Inv.nones (h : Inv w0 M w H) : ∀ {ns : Heap}, (∀ x, x ∈ ns → x.1 = none) → Inv w0 M w (H ++ ns)
 | [], _ => by simpa using h
 | (x, o) :: ns, hn => by
  have h1 := hn (x, o) (.head _)
  simp only at h1
  subst h1
  exact ((Inv.nones h (ns := ns) (fun y hy => hn y (.tail _ hy))).addNone o).perm List.perm_middle.symm
theorem Inv.pick (h : Inv w0 M w H) (hp : Pick H' H) : Inv w0 M w H' := by
 obtain ⟨R, ns, hn, hR⟩ := hp
 exact ((h.nones hn).perm hR).left
theorem Inv.upd (h : Inv w0 M w H) (ht : Take (some b, o) H R) (h1 : w'.os = w.os) (h2 : w'.tape = w.tape) (h3 : w'.output = w.output) (hs : w'.heap.size = w.heap.size)
    (hb : w'.heap[b]? = some o') (ho : ∀ k, k ≠ b → w'.heap[k]? = w.heap[k]?) : Inv w0 M w' ((some b, o') :: R) := by
  have g := h.perm ht
  have ga := g.apart
  simp only [List.filterMap_cons, List.nodup_cons] at ga
  refine ⟨h1.trans h.os, h2.trans h.tape, h3.trans h.output, by rw [hs]; exact h.size, fun k hk hm => ?_, fun k p hp => ?_, fun k p hp => ?_, ?_⟩
  · rw [ho k ?_]
    · exact h.keep k hk hm
    · rintro rfl
      rcases g.low k o (.head _) with hl | hl
      · omega
      · exact hm hl
  · rcases List.mem_cons.1 hp with e | hp
    · injection e with e1 e2
      injection e1 with e1
      subst e1; subst e2
      exact hb
    · rw [ho k ?_]
      · exact g.own k p (.tail _ hp)
      · intro e
        exact ga.1 (e ▸ Nn hp)
  · rcases List.mem_cons.1 hp with e | hp
    · injection e with e1 e2
      injection e1 with e1
      subst e1
      exact g.low k o (.head _)
    · exact g.low k p (.tail _ hp)
  · simpa using ga
theorem Inv.join {M' : List Nat} {Hm : Heap} (h : Inv w0 M w H) (hH : List.Perm H (Hm ++ R)) (hM : ∀ m, m ∈ M' → m ∈ Hm.filterMap (·.1)) (g : Inv w M' w' N) : Inv w0 M w' (N ++ R) := by
 have hp := h.perm hH
 have ha := hp.apart
 rw [List.filterMap_append] at ha
 obtain ⟨_, ha2, ha3⟩ := List.nodup_append.1 ha
 have hlowM : ∀ m, m ∈ M' → w0.heap.size ≤ m ∨ m ∈ M := fun m hm => by
  obtain ⟨o, hpm⟩ := Gl (hM m hm)
  exact hp.low m o (List.mem_append_left _ hpm)
 refine ⟨g.os.trans h.os, g.tape.trans h.tape, g.output.trans h.output, Nat.le_trans h.size g.size, fun k hk hm => ?_, fun k p hpm => ?_, fun k p hpm => ?_, ?_⟩
 ·
  rw [g.keep k (Nat.lt_of_lt_of_le hk h.size) ?_]
  · exact h.keep k hk hm
  ·
   intro hm'
   rcases hlowM k hm' with hl | hl
   · omega
   · exact hm hl
 ·
  rcases List.mem_append.1 hpm with hpm | hpm
  · exact g.own k p hpm
  ·
   rw [g.keep k (hp.lt (List.mem_append_right _ hpm)) ?_]
   · exact hp.own k p (List.mem_append_right _ hpm)
   ·
    intro hm'
    exact ha3 _ (hM _ hm') _ (Nn hpm) rfl
 ·
  rcases List.mem_append.1 hpm with hpm | hpm
  ·
   rcases g.low k p hpm with hl | hl
   · exact .inl (Nat.le_trans h.size hl)
   · exact hlowM _ hl
  · exact hp.low k p (List.mem_append_right _ hpm)
 ·
  rw [List.filterMap_append, List.nodup_append]
  refine ⟨g.apart, ha2, fun x hx y hy e => ?_⟩
  subst e
  obtain ⟨o1, hpN⟩ := Gl hx
  obtain ⟨o2, hqR⟩ := Gl hy
  have hlt := hp.lt (List.mem_append_right Hm hqR)
  rcases g.low x o1 hpN with hl | hl
  · omega
  · exact ha3 _ (hM _ hl) _ hy rfl
theorem Inv.join0 (h : Inv w0 M w H) (g : Inv w [] w' N) : Inv w0 M w' (N ++ H) := h.join (Hm := []) (List.Perm.refl _) (by simp) g
theorem Inv.cell_own (h : Inv w0 M w H) {cs : Array Value} {T : TypeId} {fr : Nat × Nat} (hm : (some b, .cells cs T fr) ∈ H) (off : Nat) : w.cell? ⟨b, off, none⟩ = cs[off]? := by
 have := h.own _ _ hm
 simp [World.cell?, this]
theorem Inv.frozen_own (h : Inv w0 M w H) {cs : Array Value} {T : TypeId} (hm : (some b, .cells cs T (0, 0)) ∈ H) (off : Nat) : w.frozen? ⟨b, off, none⟩ = false := by
 have := h.own _ _ hm
 simp [World.frozen?, this]
theorem Inv.cell_old (h : Inv w0 M w H) {a : Addr} {v : Value} (hc : w0.cell? a = some v) (hm : a.block ∉ M) : w.cell? a = some v := by
 have hb : a.block < w0.heap.size := by
  unfold World.cell? at hc
  split at hc
  ·
   rename_i he
   exact (Array.getElem?_eq_some_iff.1 he).1
  · cases hc
 have := h.keep a.block hb hm
 unfold World.cell? at *
 rw [this]
 exact hc
end inv
structure Cx where
  P : Program
  ρ : Option Nat
  n : Nat
  D : List Deferred
  w0 : World
  M : List Nat
def FW (ρ : Option Nat) : Fence := { fn := fun _ => True, depth := none, alive := false, round := ρ }
def T (C : Cx) (c : Code) (Q : Exit → Act → World → Prop) (E : Env) (H : Heap) : Prop :=
  ∀ a w, Fits C.n C.D E a → Inv C.w0 C.M w H → c.wpIn (FW C.ρ) 0 C.P Q a w
def TO (C : Cx) (ops : Array Oper) (Q : Exit → Act → World → Prop) (l : List Nat) (E : Env) (H : Heap) : Prop :=
  ∀ a w, Fits C.n C.D E a → Inv C.w0 C.M w H → wpOpsIn (FW C.ρ) 0 C.P ops Q l a w
def X (C : Cx) (Q : Exit → Act → World → Prop) (e : Exit) (E : Env) (H : Heap) : Prop :=
  ∀ a w, Fits C.n C.D E a → Inv C.w0 C.M w H → Q e a w
def Fnc (P : Program) (f : FuncId) (args : Array Value) (w : World) (M : List Nat) (Post : Value → Heap → Prop) : Prop :=
  Calls P f args w (fun e w' => ∃ v N, Post v N ∧ e = .returned v ∧ Inv w M w' N)
def Xu (w : World) (M : List Nat) (Post : Value → Heap → Prop) : Ending → World → Prop := fun e w' => ∃ v N, Post v N ∧ e = .returned v ∧ Inv w M w' N
theorem Fnc.mono {P : Program} {f : FuncId} {args : Array Value} {w : World} {M : List Nat} {A B : Value → Heap → Prop} (h : Fnc P f args w M A) (hab : ∀ v N, A v N → B v N) : Fnc P f args w M B :=
 Calls.mono h fun _ _ ⟨v, N, hA, he, hi⟩ => ⟨v, N, hab v N hA, he, hi⟩
theorem callsIn_FW {ρ : Option Nat} {n : Nat} {P : Program} {f : FuncId} {args : Array Value} {w : World} {R : Ending → World → Prop} : CallsIn (FW ρ) n P f args w R ↔ Calls P f args w R := by
 have : CallsIn (FW ρ) n P f args w R ↔ CallsIn Fence.wide n P f args w R := Iff.rfl
 rw [this]; exact callsIn_wide
section control
variable {C : Cx} {Q : Exit → Act → World → Prop} {E E' : Env} {H H' : Heap} {c x y : Code}
theorem T.weak (h : T C c Q E' H') (hE : ∀ t v, find E' t = some v → find E t = some v) (hH : Pick H' H) : T C c Q E H :=
 fun a w hf hi => h a w (hf.weak hE) (hi.pick hH)
theorem T.mono {Q' : Exit → Act → World → Prop} (h : T C c Q' E H) (hq : ∀ e a w, Q' e a w → Q e a w) : T C c Q E H :=
 fun a w hf hi => wpIn_mono (h a w hf hi) hq
theorem T.skip (h : X C Q .normal E H) : T C .skip Q E H := fun a w hf hi => wpIn_skip (h a w hf hi)
theorem T.ret (h : X C Q .ret E H) : T C .ret Q E H := fun a w hf hi => wpIn_ret (h a w hf hi)
theorem T.exit {id : Nat} (h : X C Q (.exit id) E H) : T C (.exit id) Q E H := fun a w hf hi => wpIn_exit (h a w hf hi)
theorem Zt (h : T C x (Exit.then (y.wpIn (FW C.ρ) 0 C.P Q) Q) E H) : T C (.seq x y) Q E H := fun a w hf hi => wpIn_seq (h a w hf hi)
theorem T.block {id : Nat} (h : T C c (Exit.inBlock id Q) E H) : T C (.block id c) Q E H := fun a w hf hi => wpIn_block (h a w hf hi)
theorem T.region {id : Nat} {ops : Array Oper} (h : TO C ops Q (List.range ops.size) E H) : T C (.region id ops false) Q E H :=
 fun a w hf hi => wpIn_region (h a w hf hi)
theorem T.cond {o : Operand} {b : Bool} (ho : ev E o = some (.bool b)) (ht : b = true → T C x Q E H) (hf : b = false → T C y Q E H) : T C (.cond o x y) Q E H :=
 fun a w hfit hi => wpIn_cond_split (hfit.ev ho) (fun h => ht h a w hfit hi) (fun h => hf h a w hfit hi)
theorem Xx {o : Operand} {b : Bool} (ho : ev E o = some (.bool b)) (hb : b = true) (ht : T C x Q E H) : T C (.cond o x y) Q E H := T.cond ho (fun _ => ht) (fun h => by rw [hb] at h; cases h)
theorem Ue {o : Operand} {b : Bool} (ho : ev E o = some (.bool b)) (hb : b = false) (hf : T C y Q E H) : T C (.cond o x y) Q E H := T.cond ho (fun h => by rw [hb] at h; cases h) (fun _ => hf)
theorem Vm {o : Operand} {p : Prop} {hp : Decidable p} (ho : ev E o = some (.bool (@decide p hp))) (hb : p) (ht : T C x Q E H) : T C (.cond o x y) Q E H := Xx ho (decide_eq_true hb) ht
theorem Va {o : Operand} {p : Prop} {hp : Decidable p} (ho : ev E o = some (.bool (@decide p hp))) (hb : ¬p) (hf : T C y Q E H) : T C (.cond o x y) Q E H := Ue ho (decide_eq_false hb) hf
theorem Xa (h : T C y Q E H) : X C (Exit.then (y.wpIn (FW C.ρ) 0 C.P Q) Q) .normal E H := h
theorem Ym {K : Act → World → Prop} (h : X C Q .ret E H) : X C (Exit.then K Q) .ret E H := h
theorem Uh {K : Act → World → Prop} {id : Nat} (h : X C Q (.exit id) E H) : X C (Exit.then K Q) (.exit id) E H := h
theorem Vo {id : Nat} (h : X C Q .normal E H) : X C (Exit.inBlock id Q) .normal E H := h
theorem Wi {id : Nat} (h : X C Q .ret E H) : X C (Exit.inBlock id Q) .ret E H := h
theorem Gr {id : Nat} (h : X C Q .normal E H) : X C (Exit.inBlock id Q) (.exit id) E H := fun a w hf hi => by
 simp only [Exit.inBlock, if_true]; exact h a w hf hi
theorem Zct {id j : Nat} (hj : Nat.beq j id = false) (h : X C Q (.exit j) E H) : X C (Exit.inBlock id Q) (.exit j) E H := fun a w hf hi => by
 have : j ≠ id := by rintro rfl; simp at hj
 simp only [Exit.inBlock, if_neg this]; exact h a w hf hi
def Since (D : List Nat) (E0 E : Env) : Prop := ∀ t v, t ∉ D → find E0 t = some v → find E t = some v
theorem Since.refl {D : List Nat} {E0 : Env} : Since D E0 E0 := fun _ _ _ h => h
theorem Since.put {D : List Nat} {E0 : Env} {d : Nat} {v : Value} (h : Since D E0 E) (hd : D.any (Nat.beq d) = true) : Since D E0 ((d, v) :: E) := fun t u ht hu => by
 rw [Uu, if_neg]
 · exact h t u ht hu
 · rintro rfl; exact ht (any_beq.1 hd)
end control
end Go.Acq
namespace Go.Acq
open Go Go.RowKit
section
variable {C : Cx} {Q : Exit → Act → World → Prop} {E : Env} {H : Heap} {c x y : Code}
end
end Go.Acq
namespace Go.Acq
open Go Go.RowKit
def Xv (P : Program) (t : TypeId) : Bool :=
  match P.underlying t with
  | some (.struct _) | some (.array _ _) | none => false
  | _ => (P.info? t).map (·.size) == some 1
def Vr (P : Program) (t : TypeId) (k : Nat) : Bool :=
  match P.underlying t with
  | some (.struct _) | some (.array _ _) => (P.info? t).map (·.size) == some k
  | _ => false
def Yq (P : Program) (t : TypeId) : Option Nat := (P.info? t).map (·.size)
def Z3y (P : Program) (t : TypeId) : Option Nat := (P.info? t).map (·.bytes)
def Wb (P : Program) (t : TypeId) : Option Value := (P.info? t).bind (·.zero)
def Xi (P : Program) (t : TypeId) : Option TypeId :=
  match P.underlying t with
  | some (.slice e) => some e
  | _ => none
def Vh (P : Program) (s : TypeId) (f : Nat) : Option Nat :=
  match P.underlying s with
  | some (.struct fs) => (fs[f]?).bind fun g => (P.info? g.type).bind fun i => if i.size = 0 then none else some g.offset
  | _ => none
def intT (P : Program) (t : TypeId) : Option IntKind :=
  match P.underlying t with
  | some (.int k) => some k
  | _ => none
section types
variable {P : Program} {t e s : TypeId} {k f o : Nat} {w : World}
theorem Kp (h : Xi P t = some e) : P.underlying t = some (.slice e) := by
 unfold Xi at h
 split at h
 · injection h with h; subst h; assumption
 · cases h
theorem intT_eq {q : IntKind} (h : intT P t = some q) : P.underlying t = some (.int q) := by
 unfold intT at h
 split at h
 · injection h with h; subst h; assumption
 · cases h
theorem Z58 (h : Yq P t = some k) : ∃ i, P.info? t = some i ∧ i.size = k := by
 unfold Yq at h
 cases hi : P.info? t with
 | none => simp [hi] at h
 | some i => exact ⟨i, rfl, by simpa [hi] using h⟩
theorem Gx (h : Yq P t = some k) : (sizeOf t).run P w = .ok k w := by
 obtain ⟨i, hi, rfl⟩ := Z58 h
 simp [sizeOf, typeInfo, hi]
theorem Lx {z : Value} (h : Wb P t = some z) : (zeroValue t).run P w = .ok z w := by
 unfold Wb at h
 cases hi : P.info? t with
 | none => simp [hi] at h
 | some i => simp [hi] at h; simp [zeroValue, typeInfo, hi, h]
theorem Zdq (h : Xv P t = true) : (isAgg t).run P w = .ok false w := by
 unfold Xv at h
 cases hu : P.underlying t with
 | none => simp [hu] at h
 | some d => cases d <;> simp_all [isAgg, run_underlying hu]
theorem Z6j (h : Vr P t k = true) : (isAgg t).run P w = .ok true w := by
 unfold Vr at h
 cases hu : P.underlying t with
 | none => simp [hu] at h
 | some d => cases d <;> simp_all [isAgg, run_underlying hu]
theorem Z9l (h : Vr P t k = true) : Yq P t = some k := by
 unfold Vr at h
 unfold Yq
 split at h <;> simp_all
theorem Z5n (h : Xv P t = true) {a : Addr} {v : Value} (hc : w.cell? a = some v) : (loadVar t a).run P w = .ok v w := by
 simp [loadVar, Zdq h, hc]
theorem Z5x (h : Vr P t k = true) {a : Addr} {cs : List Value} (hk : cs.length = k) (hc : ∀ j v, cs[j]? = some v → w.cell? (a.add j) = some v) :
    (loadVar t a).run P w = .ok (.agg cs.toArray) w := by
  have hl := run_loadCells_list (P := P) w a cs hc
  rw [hk] at hl
  simp [loadVar, Z6j h, Gx (Z9l h), hl]
theorem Z5l (h : Vh P s f = some o) (b p : Nat) : (Instr.fieldAt s (.pointer (some ⟨b, p, none⟩)) f).run P w = .ok (.pointer (some ⟨b, p + o, none⟩)) w := by
 unfold Vh at h
 split at h
 ·
  rename_i fs hu
  cases hg : fs[f]? with
  | none => simp [hg] at h
  | some g =>
   cases hi : P.info? g.type with
   | none => simp [hg, hi] at h
   | some i =>
    simp only [hg, hi, Option.bind_some] at h
    by_cases hz : i.size = 0
    · simp [hz] at h
    ·
     simp [hz] at h
     subst h
     simp [Instr.fieldAt, run_underlying hu, hg, Instr.sureAddr, fieldPlace, sizeOf, typeInfo, hi, hz, Addr.add_mid]
 · cases h
end types
theorem Inv.setRow {w0 w : World} {M : List Nat} {H R : Heap} {b : Nat} {cs cs' : Array Value} {T : TypeId} {fr : Nat × Nat} (h : Inv w0 M w H) (ht : Take (some b, .cells cs T fr) H R) :
    Inv w0 M (w.setRow b cs') ((some b, .cells cs' T fr) :: R) := by
  have hb := h.own _ _ ht.mem
  refine h.upd ht rfl rfl rfl (by simp [World.setRow]) ?_ fun k hk => ?_
  · simp only [World.setRow, Array.getElem?_modify, hb]; simp
  · simp only [World.setRow, Array.getElem?_modify]
    rw [if_neg (by omega)]
section rules
variable {C : Cx} {ops : Array Oper} {Q : Exit → Act → World → Prop} {l : List Nat} {E : Env} {H R : Heap} {i d : Nat} {ty : TypeId} {Zc : String} {af : Array Edge} {g : Option (Nat × Bool)}
def Zk (ops : Array Oper) (E : Env) : Option (Nat × Bool) → Bool
  | none => true
  | some (j, want) =>
    match ((ops[j]?).bind (·.dst)).bind (find E) with
    | some (.bool b) => b == want
    | _ => false
def gdN (ops : Array Oper) (E : Env) : Option (Nat × Bool) → Bool
  | none => false
  | some (j, want) =>
    match ((ops[j]?).bind (·.dst)).bind (find E) with
    | some (.bool b) => b != want
    | _ => false
theorem Fits.yields {n : Nat} {D : List Deferred} {a : Act} (hf : Fits n D E a) {j t : Nat} {b : Bool} (hj : (ops[j]?).bind (·.dst) = some t) (ht : find E t = some (.bool b)) : yielded ops a.tmps j = some b := by
 have h := hf.get t _ ht
 unfold yielded
 rw [hj, Option.bind_some]
 have h2 : a.tmps[t]? = some (.bool b) := by
  rw [Array.getD_eq_getD_getElem?] at h
  cases hq : a.tmps[t]? with
  | none => rw [hq] at h; simp [undef] at h
  | some u => rw [hq] at h; simpa using h
 rw [h2]
theorem Z1p {n : Nat} {D : List Deferred} {a : Act} {o : Oper} (hf : Fits n D E a) (h : Zk ops E o.guard = true) : Region.wanted o (yielded ops a.tmps) = true := by
 unfold Region.wanted
 cases hg : o.guard with
 | none => rfl
 | some jw =>
  obtain ⟨j, want⟩ := jw
  rw [hg] at h
  simp only [Zk] at h
  cases hj : (ops[j]?).bind (·.dst) with
  | none => simp [hj] at h
  | some t =>
   rw [hj, Option.bind_some] at h
   cases ht : find E t with
   | none => simp [ht] at h
   | some v =>
    rw [ht] at h
    cases v <;> simp at h
    subst h
    simp [hf.yields hj ht]
theorem Z6b {n : Nat} {D : List Deferred} {a : Act} {o : Oper} (hf : Fits n D E a) (h : gdN ops E o.guard = true) : Region.wanted o (yielded ops a.tmps) = false := by
 unfold Region.wanted
 cases hg : o.guard with
 | none => rw [hg] at h; simp [gdN] at h
 | some jw =>
  obtain ⟨j, want⟩ := jw
  rw [hg] at h
  simp only [gdN] at h
  cases hj : (ops[j]?).bind (·.dst) with
  | none => simp [hj] at h
  | some t =>
   rw [hj, Option.bind_some] at h
   cases ht : find E t with
   | none => simp [ht] at h
   | some v =>
    rw [ht] at h
    cases v <;> simp at h
    simp [hf.yields hj ht, h]
theorem Kk {o : Oper} (ho : ops[i]? = some o) (hg : Zk ops E o.guard = true) (hnd : ∀ c, o.op ≠ .defer c)
    (h : ∀ a w, Fits C.n C.D E a → Inv C.w0 C.M w H → o.uponIn (FW C.ρ) 0 C.P a (wpOpsIn (FW C.ρ) 0 C.P ops Q l) Q ((execOp a.eval o).run C.P w)) :
    TO C ops Q (i :: l) E H := by
  intro a w hf hi
  have hw : Region.wanted o (yielded ops a.tmps) = true := Z1p hf hg
  simp only [wpOpsIn, ho, hw, if_true, Oper.wpIn]
  refine ⟨fun _ _ => trivial, ?_⟩
  rw [Oper.semAt_eq _ _ _ hnd]
  exact h a w hf hi
theorem Zh {o : Oper} (q0_ : ops[i]? = some o ∧ gdN ops E o.guard = true ∧ o.dst = some d ∧ Nat.ble (d + 1) C.n = true) (k : TO C ops Q l ((d, undef) :: E) H) : TO C ops Q (i :: l) E H := by
 obtain ⟨ho, hg, hdst, hd⟩ := q0_
 intro a w hf hi
 have hw : Region.wanted o (yielded ops a.tmps) = false := Z6b hf hg
 simp only [wpOpsIn, ho, hw, Bool.false_eq_true, if_false]
 refine ⟨fun _ _ => trivial, ?_⟩
 rw [hdst]
 exact k _ _ (hf.put hd _) hi
theorem Yg {t : Nat} {b b' : Bool} (ht : find E t = some (.bool b)) (hb : b = b') (k : TO C ops Q l ((t, .bool b') :: E) H) : TO C ops Q l E H := by
 subst hb
 intro a w hf hi
 refine k a w ⟨hf.size, hf.defers, fun u v hu => ?_⟩ hi
 rw [Uu] at hu
 by_cases e : t = u
 · subst e; rw [if_pos rfl] at hu; injection hu with hu; subst hu; exact hf.get t _ ht
 · rw [if_neg e] at hu; exact hf.get u v hu
theorem Zj (h : X C Q .normal E H) : TO C ops Q [] E H := h
theorem TO.val {op : Op} {v : Value} (ho : ops[i]? = some ⟨some d, op, ty, Zc, af, g⟩) (hg : Zk ops E g = true) (hd : Nat.ble (d + 1) C.n = true) (hnd : ∀ c, op ≠ .defer c)
    (hr : ∀ a w, Fits C.n C.D E a → Inv C.w0 C.M w H → (execOp a.eval ⟨some d, op, ty, Zc, af, g⟩).run C.P w = .ok (.value v) w)
    (k : TO C ops Q l ((d, v) :: E) H) : TO C ops Q (i :: l) E H :=
  Kk ho hg hnd fun a w hf hi => by
    rw [hr a w hf hi]
    exact k _ _ (hf.put hd v) hi
theorem Zd {x : Operand} {v : Value} (q0_ : ops[i]? = some ⟨some d, .move x, ty, Zc, af, g⟩ ∧ Zk ops E g = true ∧ Nat.ble (d + 1) C.n = true ∧ ev E x = some v)
    (k : TO C ops Q l ((d, v) :: E) H) : TO C ops Q (i :: l) E H := have ⟨ho, hg, hd, hx⟩ := q0_;
  TO.val ho hg hd (by simp) (fun a w hf _ => by simp [execOp, hf.ev hx]) k
theorem Wp {x : Operand} {v : Value} (q0_ : ops[i]? = some ⟨some d, .assign x, ty, Zc, af, g⟩ ∧ Zk ops E g = true ∧ Nat.ble (d + 1) C.n = true ∧ ev E x = some v)
    (k : TO C ops Q l ((d, v) :: E) H) : TO C ops Q (i :: l) E H := have ⟨ho, hg, hd, hx⟩ := q0_;
  TO.val ho hg hd (by simp) (fun a w hf _ => by simp [execOp, hf.ev hx]) k
theorem Yn {c x y : Operand} {v : Value} (q0_ : ops[i]? = some ⟨some d, .pick c x y, ty, Zc, af, g⟩ ∧ Zk ops E g = true ∧ Nat.ble (d + 1) C.n = true ∧ ev E c = some (.bool true) ∧ ev E x = some v) (k : TO C ops Q l ((d, v) :: E) H) : TO C ops Q (i :: l) E H := have ⟨ho, hg, hd, hc, hx⟩ := q0_;
  TO.val ho hg hd (by simp) (fun a w hf _ => by simp [execOp, hf.ev hc, hf.ev hx, asBool]) k
theorem Yt {c x y : Operand} {v : Value} (q0_ : ops[i]? = some ⟨some d, .pick c x y, ty, Zc, af, g⟩ ∧ Zk ops E g = true ∧ Nat.ble (d + 1) C.n = true ∧ ev E c = some (.bool false) ∧ ev E y = some v) (k : TO C ops Q l ((d, v) :: E) H) : TO C ops Q (i :: l) E H := have ⟨ho, hg, hd, hc, hx⟩ := q0_;
  TO.val ho hg hd (by simp) (fun a w hf _ => by simp [execOp, hf.ev hc, hf.ev hx, asBool]) k
def Lj : BinOp → IntKind → Int → Int → Option Value
  | .add, k, a, b => some (.int k (k.wrap (a + b)))
  | .sub, k, a, b => some (.int k (k.wrap (a - b)))
  | .mul, k, a, b => some (.int k (k.wrap (a * b)))
  | .eql, _, a, b => some (.bool (decide (a = b)))
  | .neq, _, a, b => some (.bool (decide (a ≠ b)))
  | .lss, _, a, b => some (.bool (decide (a < b)))
  | .leq, _, a, b => some (.bool (decide (a ≤ b)))
  | .gtr, _, a, b => some (.bool (decide (b < a)))
  | .geq, _, a, b => some (.bool (decide (b ≤ a)))
  | _, _, _, _ => none
theorem Z8d {op : BinOp} {k : IntKind} {a b : Int} {v : Value} {t : TypeId} {P : Program} {w : World} (h : Lj op k a b = some v) : (binOp op t (.int k a) (.int k b)).run P w = .ok v w := by
 unfold Lj at h
 split at h <;> try (cases h; done)
 all_goals (injection h with h; subst h)
 · simp [binOp, Op.intArith]
 · simp [binOp, Op.intArith]
 · simp [binOp, Op.intArith]
 · simp only [binOp_eql]; rw [Sem.run_pure]; congr 2
 · simp only [binOp_neq]; rw [Sem.run_pure]; congr 2; by_cases e : a = b <;> simp [e]
 · simp [binOp, Op.intCmp]
 · simp [binOp, Op.intCmp]
 · simp [binOp, Op.intCmp]
 · simp [binOp, Op.intCmp]
theorem Yb {op : BinOp} {t t2 : TypeId} {x y : Operand} {k : IntKind} {p q : Int} {v : Value}
    (q0_ : ops[i]? = some ⟨some d, .binOp op t x y t2, ty, Zc, af, g⟩ ∧ Zk ops E g = true ∧ Nat.ble (d + 1) C.n = true ∧ ev E x = some (.int k p) ∧ ev E y = some (.int k q) ∧ Lj op k p q = some v) (kk : TO C ops Q l ((d, v) :: E) H) : TO C ops Q (i :: l) E H := have ⟨ho, hg, hd, hx, hy, hv⟩ := q0_;
  TO.val ho hg hd (by simp) (fun a w hf _ => by simp [execOp, hf.ev hx, hf.ev hy, eqGuard_at_int, Z8d hv]) kk
theorem Z2b {a : Int} (h1 : -9223372036854775808 ≤ a) (h2 : a ≤ 9223372036854775807) : IntKind.i64.wrap a = a := by
 rw [IntKind.wrap_i64]; omega
theorem TO.add {t t2 : TypeId} {x y : Operand} {p q : Int}
    (ho : ops[i]? = some ⟨some d, .binOp .add t x y t2, ty, Zc, af, g⟩) (hg : Zk ops E g = true) (hd : Nat.ble (d + 1) C.n = true) (hx : ev E x = some (.int .i64 p)) (hy : ev E y = some (.int .i64 q))
    (h1 : -9223372036854775808 ≤ p + q) (h2 : p + q ≤ 9223372036854775807) (kk : TO C ops Q l ((d, .int .i64 (p + q)) :: E) H) : TO C ops Q (i :: l) E H :=
  Yb ⟨ho, hg, hd, hx, hy, (by simp only [Lj]; rw [Z2b h1 h2])⟩ kk
theorem TO.sub {t t2 : TypeId} {x y : Operand} {p q : Int}
    (ho : ops[i]? = some ⟨some d, .binOp .sub t x y t2, ty, Zc, af, g⟩) (hg : Zk ops E g = true) (hd : Nat.ble (d + 1) C.n = true) (hx : ev E x = some (.int .i64 p)) (hy : ev E y = some (.int .i64 q))
    (h1 : -9223372036854775808 ≤ p - q) (h2 : p - q ≤ 9223372036854775807) (kk : TO C ops Q l ((d, .int .i64 (p - q)) :: E) H) : TO C ops Q (i :: l) E H :=
  Yb ⟨ho, hg, hd, hx, hy, (by simp only [Lj]; rw [Z2b h1 h2])⟩ kk
theorem TO.rem {t t2 : TypeId} {x y : Operand} {k : IntKind} {p q : Int}
    (q0_ : ops[i]? = some ⟨some d, .binOp .rem t x y t2, ty, Zc, af, g⟩ ∧ Zk ops E g = true ∧ Nat.ble (d + 1) C.n = true ∧ ev E x = some (.int k p) ∧ ev E y = some (.int k q))
    (h0 : q ≠ 0) (kk : TO C ops Q l ((d, .int k (p.tmod q)) :: E) H) : TO C ops Q (i :: l) E H := have ⟨ho, hg, hd, hx, hy⟩ := q0_;
  TO.val ho hg hd (by simp) (fun a w hf _ => by simp [execOp, hf.ev hx, hf.ev hy, eqGuard_at_int, binOp, Op.intDiv, h0]) kk
theorem Z86 {P : Program} {w : World} {t : TypeId} {x y : Value} {r : Bool} (h : ∀ n, (Op.equalIn (n + 1) t x y).run P w = .ok r w) : (Op.equal t x y).run P w = .ok r w := h 9999
theorem Zc9 {P : Program} {w : World} {t : TypeId} {x y : Value} {r : Bool} (h : (Op.equal t x y).run P w = .ok r w) (hb : binOp .eql t x y = (do pure (.bool (← Op.equal t x y)))) :
    (binOp .eql t x y).run P w = .ok (.bool r) w := by rw [hb]; simp [h]
theorem Z7q {P : Program} {w : World} {t : TypeId} {x y : Value} {r : Bool} (h : (Op.equal t x y).run P w = .ok r w) (hb : binOp .neq t x y = (do pure (.bool (!(← Op.equal t x y))))) :
    (binOp .neq t x y).run P w = .ok (.bool (!r)) w := by rw [hb]; simp [h]
theorem TO.not {t : TypeId} {x : Operand} {b : Bool} (q0_ : ops[i]? = some ⟨some d, .unOp .not t x, ty, Zc, af, g⟩ ∧ Zk ops E g = true ∧ Nat.ble (d + 1) C.n = true ∧ ev E x = some (.bool b)) (kk : TO C ops Q l ((d, .bool (!b)) :: E) H) : TO C ops Q (i :: l) E H := have ⟨ho, hg, hd, hx⟩ := q0_;
  TO.val ho hg hd (by simp) (fun a w hf _ => by simp [execOp, hf.ev hx, Op.unary]) kk
theorem TO.neg {t : TypeId} {x : Operand} {k : IntKind} {p : Int} (ho : ops[i]? = some ⟨some d, .unOp .neg t x, ty, Zc, af, g⟩) (hg : Zk ops E g = true) (hd : Nat.ble (d + 1) C.n = true)
    (hx : ev E x = some (.int k p)) (kk : TO C ops Q l ((d, .int k (k.wrap (-p))) :: E) H) : TO C ops Q (i :: l) E H :=
  TO.val ho hg hd (by simp) (fun a w hf _ => by simp [execOp, hf.ev hx, Op.unary, Op.intArith]) kk
theorem TO.conv {s t : TypeId} {x : Operand} {k q : IntKind} {p : Int} (ho : ops[i]? = some ⟨some d, .convert s t x, ty, Zc, af, g⟩) (hg : Zk ops E g = true) (hd : Nat.ble (d + 1) C.n = true)
    (hx : ev E x = some (.int k p)) (hs : (C.P.underlying s).isSome = true) (ht : intT C.P t = some q) (kk : TO C ops Q l ((d, .int q (q.wrap p)) :: E) H) : TO C ops Q (i :: l) E H :=
  TO.val ho hg hd (by simp) (fun a w hf _ => by
    have hu := intT_eq ht
    cases hs' : C.P.underlying s with
    | none => simp [hs'] at hs
    | some ds => simp [execOp, hf.ev hx, convert, run_underlying hs', run_underlying hu, Conv.intToInt]) kk
theorem Za0 {s t : TypeId} {x : Operand} {k q : IntKind} {p : Int} (q0_ : ops[i]? = some ⟨some d, .convert s t x, ty, Zc, af, g⟩ ∧ Zk ops E g = true ∧ Nat.ble (d + 1) C.n = true ∧ ev E x = some (.int k p)) (hs : (C.P.underlying s).isSome = true) (ht : intT C.P t = some q) (hw : q.wrap p = p) (kk : TO C ops Q l ((d, .int q p) :: E) H) : TO C ops Q (i :: l) E H := have ⟨ho, hg, hd, hx⟩ := q0_;
  TO.conv ho hg hd hx hs ht (by rw [hw]; exact kk)
theorem TO.extract {x : Operand} {n : Nat} {vs : Array Value} {v : Value} (q0_ : ops[i]? = some ⟨some d, .extract x n, ty, Zc, af, g⟩ ∧ Zk ops E g = true ∧ Nat.ble (d + 1) C.n = true ∧ ev E x = some (.tuple vs) ∧ vs[n]? = some v) (kk : TO C ops Q l ((d, v) :: E) H) : TO C ops Q (i :: l) E H := have ⟨ho, hg, hd, hx, hv⟩ := q0_;
  TO.val ho hg hd (by simp) (fun a w hf _ => by simp [execOp, hf.ev hx, Instr.extract, hv]) kk
def Wx (E : Env) : List Operand → Option (List Value)
  | [] => some []
  | x :: xs => match ev E x, Wx E xs with
    | some v, some vs => some (v :: vs)
    | _, _ => none
theorem Jh {n : Nat} {D : List Deferred} {a : Act} (hfit : Fits n D E a) : ∀ {xs : List Operand} {ys : List Value}, Wx E xs = some ys → xs.map a.eval = ys
 | [], ys, h => by simp [Wx] at h; subst h; rfl
 | x :: xs, ys, h => by
  simp only [Wx] at h
  cases hx : ev E x with
  | none => simp [hx] at h
  | some v =>
   cases hxs : Wx E xs with
   | none => simp [hx, hxs] at h
   | some vs => simp [hx, hxs] at h; subst h; simp [hfit.ev hx, Jh hfit hxs]
def evp (E : Env) : List (Nat × Operand) → Option (List (Nat × Value))
  | [] => some []
  | (j, x) :: xs => match ev E x, evp E xs with
    | some v, some vs => some ((j, v) :: vs)
    | _, _ => none
theorem Z5g {n : Nat} {D : List Deferred} {a : Act} (hfit : Fits n D E a) : ∀ {xs : List (Nat × Operand)} {ys : List (Nat × Value)}, evp E xs = some ys → xs.map (fun p => (p.1, a.eval p.2)) = ys
 | [], ys, h => by simp [evp] at h; subst h; rfl
 | (j, x) :: xs, ys, h => by
  simp only [evp] at h
  cases hx : ev E x with
  | none => simp [hx] at h
  | some v =>
   cases hxs : evp E xs with
   | none => simp [hx, hxs] at h
   | some vs => simp [hx, hxs] at h; subst h; simp [hfit.ev hx, Z5g hfit hxs]
theorem TO.makeFunc {f : Fn} {fs cs : Array Operand} {vs us : List Value} (q0_ : ops[i]? = some ⟨some d, .makeFunc f fs cs, ty, Zc, af, g⟩ ∧ Zk ops E g = true ∧ Nat.ble (d + 1) C.n = true ∧ Wx E fs.toList = some vs ∧ Wx E cs.toList = some us) (kk : TO C ops Q l ((d, .func f vs.toArray us.toArray) :: E) H) : TO C ops Q (i :: l) E H := have ⟨ho, hg, hd, hf, hc⟩ := q0_;
  TO.val ho hg hd (by simp) (fun a w hfit _ => by
    have e1 : fs.map a.eval = vs.toArray := by apply Array.ext'; simpa using Jh hfit hf
    have e2 : cs.map a.eval = us.toArray := by apply Array.ext'; simpa using Jh hfit hc
    simp [execOp, Instr.makeFunc, e1, e2]) kk
theorem TO.fieldAddr {s : TypeId} {x : Operand} {f o b p : Nat} (ho : ops[i]? = some ⟨some d, .fieldAddr s x f, ty, Zc, af, g⟩) (hg : Zk ops E g = true) (hd : Nat.ble (d + 1) C.n = true)
    (hx : ev E x = some (.pointer (some ⟨b, p, none⟩))) (hT : Vh C.P s f = some o) (kk : TO C ops Q l ((d, .pointer (some ⟨b, p + o, none⟩)) :: E) H) : TO C ops Q (i :: l) E H :=
  TO.val ho hg hd (by simp) (fun a w hf _ => by simp [execOp, hf.ev hx, Z5l hT]) kk
theorem Zn {s : TypeId} {x : Operand} {f o b : Nat} (q0_ : ops[i]? = some ⟨some d, .fieldAddr s x f, ty, Zc, af, g⟩ ∧ Zk ops E g = true ∧ Nat.ble (d + 1) C.n = true ∧ ev E x = some (.pointer (some ⟨b, 0, none⟩))) (hT : Vh C.P s f = some o) (kk : TO C ops Q l ((d, .pointer (some ⟨b, o, none⟩)) :: E) H) : TO C ops Q (i :: l) E H := have ⟨ho, hg, hd, hx⟩ := q0_;
  TO.fieldAddr ho hg hd hx hT (by rw [Nat.zero_add]; exact kk)
theorem Z1b {op : Op} {o : Obj} (v : Nat → Value) (ho : ops[i]? = some ⟨some d, op, ty, Zc, af, g⟩) (hg : Zk ops E g = true) (hd : Nat.ble (d + 1) C.n = true) (hnd : ∀ c, op ≠ .defer c)
    (hr : ∀ a w, Fits C.n C.D E a → Inv C.w0 C.M w H → (execOp a.eval ⟨some d, op, ty, Zc, af, g⟩).run C.P w = .ok (.value (v w.heap.size)) (w.alloc o))
    (k : ∀ b, TO C ops Q l ((d, v b) :: E) ((some b, o) :: H)) : TO C ops Q (i :: l) E H :=
  Kk ho hg hnd fun a w hf hi => by
    rw [hr a w hf hi]
    exact k _ _ _ (hf.put hd _) (hi.alloc o)
theorem TO.box {t : TypeId} {x : Operand} {v : Value} (q0_ : ops[i]? = some ⟨some d, .box t x, ty, Zc, af, g⟩ ∧ Zk ops E g = true ∧ Nat.ble (d + 1) C.n = true ∧ ev E x = some v)
    (k : ∀ b, TO C ops Q l ((d, .pointer (some ⟨b, 0, none⟩)) :: E) ((some b, .cells v.cells t (0, 0)) :: H)) : TO C ops Q (i :: l) E H := have ⟨ho, hg, hd, hx⟩ := q0_;
  Z1b (fun b => .pointer (some ⟨b, 0, none⟩)) ho hg hd (by simp) (fun a w hf _ => by simp [execOp, hf.ev hx, Instr.box, newVar, newRow]) k
theorem Vi {t : TypeId} {x : Operand} {cs : Array Value} (q0_ : ops[i]? = some ⟨some d, .box t x, ty, Zc, af, g⟩ ∧ Zk ops E g = true ∧ Nat.ble (d + 1) C.n = true ∧ ev E x = some (.agg cs))
    (k : ∀ b, TO C ops Q l ((d, .pointer (some ⟨b, 0, none⟩)) :: E) ((some b, .cells cs t (0, 0)) :: H)) : TO C ops Q (i :: l) E H := have ⟨ho, hg, hd, hx⟩ := q0_; TO.box ⟨ho, hg, hd, hx⟩ k
theorem TO.alloc {t : TypeId} {z : Value} (q0_ : ops[i]? = some ⟨some d, .alloc t, ty, Zc, af, g⟩ ∧ Zk ops E g = true ∧ Nat.ble (d + 1) C.n = true) (hz : Wb C.P t = some z)
    (k : ∀ b, TO C ops Q l ((d, .pointer (some ⟨b, 0, none⟩)) :: E) ((some b, .cells z.cells t (0, 0)) :: H)) : TO C ops Q (i :: l) E H := have ⟨ho, hg, hd⟩ := q0_;
  Z1b (fun b => .pointer (some ⟨b, 0, none⟩)) ho hg hd (by simp) (fun a w hf _ => by simp [execOp, Instr.alloc, Lx hz, newVar, newRow]) k
theorem Vw {t : TypeId} {cs : Array Value} (q0_ : ops[i]? = some ⟨some d, .alloc t, ty, Zc, af, g⟩ ∧ Zk ops E g = true ∧ Nat.ble (d + 1) C.n = true) (hz : Wb C.P t = some (.agg cs))
    (k : ∀ b, TO C ops Q l ((d, .pointer (some ⟨b, 0, none⟩)) :: E) ((some b, .cells cs t (0, 0)) :: H)) : TO C ops Q (i :: l) E H := have ⟨ho, hg, hd⟩ := q0_; TO.alloc ⟨ho, hg, hd⟩ hz k
theorem TO.build {t : TypeId} {ps : Array (Nat × Operand)} {vs : List (Nat × Value)} {cs : Array Value} (ho : ops[i]? = some ⟨some d, .build t ps, ty, Zc, af, g⟩) (hg : Zk ops E g = true) (hd : Nat.ble (d + 1) C.n = true)
    (hx : evp E ps.toList = some vs) (hb : C.P.built t vs = some cs)
    (kk : TO C ops Q l ((d, .agg cs) :: E) H) : TO C ops Q (i :: l) E H :=
  TO.val ho hg hd (by simp) (fun a w hf _ => by
    have e1 : (ps.map (fun p => (p.1, a.eval p.2))).toList = vs := by simpa using Z5g hf hx
    have := run_build (P := C.P) w t (ps.map (fun p => (p.1, a.eval p.2))) cs (by rw [e1]; exact hb)
    simp [execOp, this]) kk
theorem Zaf {t e : TypeId} {x y : Operand} {cs : List Value} {k : IntKind} {p : Int} {n s : Nat} {vs : List Value} (ho : ops[i]? = some ⟨some d, .index t x y, ty, Zc, af, g⟩) (hg : Zk ops E g = true) (hd : Nat.ble (d + 1) C.n = true)
    (hx : ev E x = some (.agg cs.toArray)) (hy : ev E y = some (.int k p)) (hT : C.P.underlying t = some (.array n e)) (hs : Vr C.P e s = true) (h0 : 0 ≤ p) (h1 : p < n) (hv : (cs.drop (p.toNat * s)).take s = vs)
    (kk : TO C ops Q l ((d, .agg vs.toArray) :: E) H) : TO C ops Q (i :: l) E H :=
  TO.val ho hg hd (by simp) (fun a w hf _ => by
    simp [execOp, hf.ev hx, hf.ev hy, Instr.index, asIntOf, run_underlying hT, h0, h1, Gx (Z9l hs), part, Z6j hs, hv]) kk
def setCells : List Value → Nat → List Value → List Value
  | z, _, [] => z
  | z, o, v :: vs => setCells (z.set o v) (o + 1) vs
def Xb (offs : List Nat) : List Value → List (Nat × Value) → List Value
  | z, [] => z
  | z, (j, v) :: ps => Xb offs (setCells z (offs.getD j 0) v.cells.toList) ps
theorem Um {t : TypeId} {ps : Array (Nat × Operand)} {vs : List (Nat × Value)} {cs : List Value} (z : List Value) (offs : List Nat) (q0_ : ops[i]? = some ⟨some d, .build t ps, ty, Zc, af, g⟩ ∧ Zk ops E g = true ∧ Nat.ble (d + 1) C.n = true ∧ evp E ps.toList = some vs) (_hcs : Xb offs z vs = cs) (hb : C.P.built t vs = some cs.toArray)
    (kk : TO C ops Q l ((d, .agg cs.toArray) :: E) H) : TO C ops Q (i :: l) E H := have ⟨ho, hg, hd, hx⟩ := q0_; TO.build ho hg hd hx hb kk
end rules
end Go.Acq
namespace Go.Acq
open Go Go.RowKit
section rules
variable {C : Cx} {ops : Array Oper} {Q : Exit → Act → World → Prop} {l : List Nat} {E : Env} {H R : Heap} {i d : Nat} {ty : TypeId} {Zc : String} {af : Array Edge} {g : Option (Nat × Bool)}
theorem Lo {id : Nat} {ll : List Nat} (hl : List.range ops.size = ll) (h : TO C ops Q ll E H) : T C (.region id ops false) Q E H := T.region (by rw [hl]; exact h)
theorem TO.load {t : TypeId} {x : Operand} {ad : Addr} {v : Value} (ho : ops[i]? = some ⟨some d, .load t x, ty, Zc, af, g⟩) (hg : Zk ops E g = true) (hd : Nat.ble (d + 1) C.n = true)
    (hx : ev E x = some (.pointer (some ad))) (hT : Xv C.P t = true) (hc : ∀ w, Inv C.w0 C.M w H → w.cell? ad = some v)
    (kk : TO C ops Q l ((d, v) :: E) H) : TO C ops Q (i :: l) E H :=
  TO.val ho hg hd (by simp) (fun a w hf hi => by simp [execOp, hf.ev hx, Instr.loadAt, Instr.sureAddr, Z5n hT (hc w hi)]) kk
theorem Zm {t T' : TypeId} {x : Operand} {b o : Nat} {cs : Array Value} {fr : Nat × Nat} {v : Value} (q0_ : ops[i]? = some ⟨some d, .load t x, ty, Zc, af, g⟩ ∧ Zk ops E g = true ∧ Nat.ble (d + 1) C.n = true ∧ ev E x = some (.pointer (some ⟨b, o, none⟩))) (hT : Xv C.P t = true) (hm : (some b, Obj.cells cs T' fr) ∈ H) (hv : cs[o]? = some v)
    (kk : TO C ops Q l ((d, v) :: E) H) : TO C ops Q (i :: l) E H := have ⟨ho, hg, hd, hx⟩ := q0_;
  TO.load ho hg hd hx hT (fun w hi => by rw [hi.cell_own hm]; exact hv) kk
theorem Z29 {t : TypeId} {x : Operand} {ad : Addr} {k : Nat} {cs : List Value} (ho : ops[i]? = some ⟨some d, .load t x, ty, Zc, af, g⟩) (hg : Zk ops E g = true) (hd : Nat.ble (d + 1) C.n = true)
    (hx : ev E x = some (.pointer (some ad))) (hT : Vr C.P t k = true) (hk : cs.length = k) (hc : ∀ w, Inv C.w0 C.M w H → ∀ j v, cs[j]? = some v → w.cell? (ad.add j) = some v)
    (kk : TO C ops Q l ((d, .agg cs.toArray) :: E) H) : TO C ops Q (i :: l) E H :=
  TO.val ho hg hd (by simp) (fun a w hf hi => by simp [execOp, hf.ev hx, Instr.loadAt, Instr.sureAddr, Z5x hT hk (hc w hi)]) kk
theorem Wn {t T' : TypeId} {x : Operand} {b k : Nat} {cs : List Value} {fr : Nat × Nat} (q0_ : ops[i]? = some ⟨some d, .load t x, ty, Zc, af, g⟩ ∧ Zk ops E g = true ∧ Nat.ble (d + 1) C.n = true ∧ ev E x = some (.pointer (some ⟨b, 0, none⟩))) (hT : Vr C.P t k = true) (hm : (some b, Obj.cells cs.toArray T' fr) ∈ H) (hk : cs.length = k)
    (kk : TO C ops Q l ((d, .agg cs.toArray) :: E) H) : TO C ops Q (i :: l) E H := have ⟨ho, hg, hd, hx⟩ := q0_;
  Z29 ho hg hd hx hT hk (fun w hi j v hv => by rw [Addr.add_mid, Nat.zero_add, hi.cell_own hm]; simpa using hv) kk
theorem Z6i {t T' : TypeId} {x y : Operand} {b o : Nat} {cs cs' : Array Value} {v : Value} {vs : List Value} (ho : ops[i]? = some ⟨none, .store t x y, ty, Zc, af, g⟩) (hg : Zk ops E g = true)
    (hx : ev E x = some (.pointer (some ⟨b, o, none⟩))) (hy : ev E y = some v) (ht : Take (some b, .cells cs T' (0, 0)) H R)
    (hv : v.cells.toList = vs) (hs : Yq C.P t = some vs.length) (h1 : ∀ u, u ∈ vs → u.oneCell' = true) (hfit : o + vs.length ≤ cs.size)
    (hcs : (cs.toList.take o ++ vs ++ cs.toList.drop (o + vs.length)).toArray = cs')
    (kk : TO C ops Q l E ((some b, .cells cs' T' (0, 0)) :: R)) : TO C ops Q (i :: l) E H :=
  Kk ho hg (by simp) fun a w hf hi => by
    have hb := hi.own _ _ ht.mem
    have hst := run_storeCells_at C.P b o T' vs 0 cs w hb (by simpa using hfit) h1
    simp only [Nat.add_zero] at hst
    rw [hcs] at hst
    have hsz : v.cells.size = vs.length := by rw [← hv, Array.length_toList]
    have : (execOp a.eval ⟨none, .store t x y, ty, Zc, af, g⟩).run C.P w = .ok .skip (w.setRow b cs') := by
      simp [execOp, hf.ev hx, hf.ev hy, Instr.storeAt, Instr.sureAddr, storeVar, Gx hs, hsz, hv, hst]
    rw [this]
    exact kk _ _ (hf.putNone _) (hi.setRow ht)
theorem Zek {α : Type} (xs : List α) (o : Nat) (v : α) (h : o < xs.length) : xs.take o ++ [v] ++ xs.drop (o + 1) = xs.set o v := by
 rw [List.set_eq_take_append_cons_drop, if_pos h]; simp
theorem Ze4 {t T' : TypeId} {x y : Operand} {b o : Nat} {cs : Array Value} {v : Value} (ho : ops[i]? = some ⟨none, .store t x y, ty, Zc, af, g⟩) (hg : Zk ops E g = true)
    (hx : ev E x = some (.pointer (some ⟨b, o, none⟩))) (hy : ev E y = some v) (ht : Take (some b, .cells cs T' (0, 0)) H R)
    (hs : Yq C.P t = some 1) (h1 : v.oneCell' = true) (hfit : Nat.ble (o + 1) cs.size = true)
    (kk : TO C ops Q l E ((some b, .cells (cs.setIfInBounds o v) T' (0, 0)) :: R)) : TO C ops Q (i :: l) E H := by
  have hfit' : o < cs.size := Nat.le_of_ble_eq_true hfit
  have hc : v.cells = #[v] := by cases v <;> first | rfl | cases h1
  refine Z6i (vs := [v]) ho hg hx hy ht (by rw [hc]) hs (fun u hu => by simp at hu; subst hu; exact h1) (by simp; omega) ?_ kk
  apply Array.ext'
  simp only [List.length_singleton]
  rw [Zek cs.toList o v (by simpa using hfit')]
  simp
theorem Zf8 {t T' : TypeId} {x y : Operand} {b o : Nat} {cs : List Value} {v : Value} (ho : ops[i]? = some ⟨none, .store t x y, ty, Zc, af, g⟩) (hg : Zk ops E g = true)
    (hx : ev E x = some (.pointer (some ⟨b, o, none⟩))) (hy : ev E y = some v) (ht : Take (some b, .cells cs.toArray T' (0, 0)) H R)
    (hs : Yq C.P t = some 1) (h1 : v.oneCell' = true) (hfit : Nat.ble (o + 1) cs.length = true)
    (kk : TO C ops Q l E ((some b, .cells (cs.set o v).toArray T' (0, 0)) :: R)) : TO C ops Q (i :: l) E H :=
  Ze4 ho hg hx hy ht hs h1 (by simpa using hfit) (by simpa using kk)
theorem Ut {t T' : TypeId} {x y : Operand} {b o : Nat} {cs cs' : List Value} {v : Value} (q0_ : ops[i]? = some ⟨none, .store t x y, ty, Zc, af, g⟩ ∧ Zk ops E g = true ∧ ev E x = some (.pointer (some ⟨b, o, none⟩)) ∧ ev E y = some v) (ht : Take (some b, .cells cs.toArray T' (0, 0)) H R)
    (hs : Yq C.P t = some 1) (q1_ : v.oneCell' = true ∧ Nat.ble (o + 1) cs.length = true ∧ cs.set o v = cs')
    (kk : TO C ops Q l E ((some b, .cells cs'.toArray T' (0, 0)) :: R)) : TO C ops Q (i :: l) E H := have ⟨ho, hg, hx, hy⟩ := q0_; have ⟨h1, hfit, hcs⟩ := q1_;
  Zf8 ho hg hx hy ht hs h1 hfit (by rw [hcs]; exact kk)
theorem Ww {t T' : TypeId} {x y : Operand} {b k : Nat} {cs vs : List Value} (q0_ : ops[i]? = some ⟨none, .store t x y, ty, Zc, af, g⟩ ∧ Zk ops E g = true ∧ ev E x = some (.pointer (some ⟨b, 0, none⟩)) ∧ ev E y = some (.agg vs.toArray)) (ht : Take (some b, .cells cs.toArray T' (0, 0)) H R)
    (hs : Yq C.P t = some k) (q1_ : vs.length = k ∧ cs.length = k ∧ vs.all (·.oneCell') = true)
    (kk : TO C ops Q l E ((some b, .cells vs.toArray T' (0, 0)) :: R)) : TO C ops Q (i :: l) E H := have ⟨ho, hg, hx, hy⟩ := q0_; have ⟨hk, hl, h1⟩ := q1_;
  Z6i (vs := vs) ho hg hx hy ht (by simp [Value.cells]) (by rw [hk]; exact hs) (fun u hu => List.all_eq_true.1 h1 u hu) (by simp; omega) (by
    simp [List.drop_eq_nil_of_le (show cs.length ≤ vs.length by omega)]) kk
abbrev arr {α : Type} (f : α → List Value) (xs : List α) (j : List Value) : List Value := xs.flatMap f ++ j
abbrev intC (k : IntKind) (x : Int) : List Value := [.int k x]
theorem Ge {α : Type} {f : α → List Value} {s : Nat} (hf : ∀ x, (f x).length = s) : ∀ xs : List α, (xs.flatMap f).length = xs.length * s
 | [] => by simp
 | x :: xs => by rw [List.flatMap_cons, List.length_append, hf, Ge hf xs, List.length_cons, Nat.add_mul]; omega
theorem Z4d {α : Type} {f : α → List Value} {s : Nat} (hf : ∀ x, (f x).length = s) (dflt : α) : ∀ (xs : List α) (o c : Nat), o < xs.length → c < s → (xs.flatMap f)[o * s + c]? = (f (xs.getD o dflt))[c]?
 | [], o, c, h, _ => by simp at h
 | x :: xs, 0, c, _, hc => by
  rw [List.flatMap_cons, Nat.zero_mul, Nat.zero_add, List.getElem?_append_left (by rw [hf]; exact hc)]
  rfl
 | x :: xs, o + 1, c, h, hc => by
  rw [List.flatMap_cons, List.getElem?_append_right (by rw [hf, Nat.add_mul]; omega), hf]
  have : (o + 1) * s + c - s = o * s + c := by rw [Nat.add_mul]; omega
  rw [this, Z4d hf dflt xs o c (by simpa using h) hc]
  rfl
theorem Z8q {α : Type} {f : α → List Value} {s : Nat} (hf : ∀ x, (f x).length = s) (dflt : α) (xs : List α) (j : List Value) (o c : Nat) (h : o < xs.length) (hc : c < s) :
    (arr f xs j)[o * s + c]? = (f (xs.getD o dflt))[c]? := by
  unfold arr
  rw [List.getElem?_append_left, Z4d hf dflt xs o c h hc]
  rw [Ge hf]
  have : (o + 1) * s ≤ xs.length * s := Nat.mul_le_mul_right s h
  rw [Nat.add_mul] at this
  omega
def ea (base : Option Addr) (n : Nat) : Addr := (base.getD ⟨0, 0, none⟩).add n
theorem Z7r {t e : TypeId} {x y : Operand} {base : Option Addr} {n c s : Nat} {k : IntKind} {p : Int} (ho : ops[i]? = some ⟨some d, .indexAddr t x y, ty, Zc, af, g⟩) (hg : Zk ops E g = true) (hd : Nat.ble (d + 1) C.n = true)
    (hx : ev E x = some (.slice base n c)) (hy : ev E y = some (.int k p)) (ht : Xi C.P t = some e) (hs : Yq C.P e = some s) (hb : base = none → n = 0) (h0 : 0 ≤ p) (h1 : p < n)
    (kk : TO C ops Q l ((d, .pointer (some (ea base (p.toNat * s)))) :: E) H) : TO C ops Q (i :: l) E H :=
  TO.val ho hg hd (by simp) (fun a w hf hi => by
    cases base with
    | none => exact absurd h1 (by simp [hb rfl]; omega)
    | some b =>
      have hu := Kp ht
      simp [execOp, hf.ev hx, hf.ev hy, Instr.indexAt, asIntOf, run_underlying hu, h0, h1, Gx hs, ea]) kk
theorem TO.index {t e : TypeId} {x y : Operand} {b o n c s : Nat} {k : IntKind} {p : Int} (ho : ops[i]? = some ⟨some d, .indexAddr t x y, ty, Zc, af, g⟩) (hg : Zk ops E g = true) (hd : Nat.ble (d + 1) C.n = true)
    (hx : ev E x = some (.slice (some ⟨b, o, none⟩) n c)) (hy : ev E y = some (.int k p)) (ht : Xi C.P t = some e) (hs : Yq C.P e = some s) (h0 : 0 ≤ p) (h1 : p < n)
    (kk : TO C ops Q l ((d, .pointer (some ⟨b, o + p.toNat * s, none⟩)) :: E) H) : TO C ops Q (i :: l) E H :=
  Z7r ho hg hd hx hy ht hs (by simp) h0 h1 (by simpa [ea, Addr.add_mid] using kk)
theorem Z8f {t e : TypeId} {x y : Operand} {b n c s : Nat} {k : IntKind} {p : Int} (ho : ops[i]? = some ⟨some d, .indexAddr t x y, ty, Zc, af, g⟩) (hg : Zk ops E g = true) (hd : Nat.ble (d + 1) C.n = true)
    (hx : ev E x = some (.slice (some ⟨b, 0, none⟩) n c)) (hy : ev E y = some (.int k p)) (ht : Xi C.P t = some e) (hs : Yq C.P e = some s) (h0 : 0 ≤ p) (h1 : p < n)
    (kk : TO C ops Q l ((d, .pointer (some ⟨b, p.toNat * s, none⟩)) :: E) H) : TO C ops Q (i :: l) E H :=
  TO.index ho hg hd hx hy ht hs h0 h1 (by rw [Nat.zero_add]; exact kk)
theorem Zdu {t e : TypeId} {x y : Operand} {b n c : Nat} {k : IntKind} {p : Int} (ho : ops[i]? = some ⟨some d, .indexAddr t x y, ty, Zc, af, g⟩) (hg : Zk ops E g = true) (hd : Nat.ble (d + 1) C.n = true)
    (hx : ev E x = some (.slice (some ⟨b, 0, none⟩) n c)) (hy : ev E y = some (.int k p)) (ht : Xi C.P t = some e) (hs : Yq C.P e = some 1) (h0 : 0 ≤ p) (h1 : p < n)
    (kk : TO C ops Q l ((d, .pointer (some ⟨b, p.toNat, none⟩)) :: E) H) : TO C ops Q (i :: l) E H :=
  Z8f ho hg hd hx hy ht hs h0 h1 (by rw [Nat.mul_one]; exact kk)
theorem Zal {t e : TypeId} {x y : Operand} {base : Option Addr} {n c s : Nat} {k : IntKind} {p : Int} (ho : ops[i]? = some ⟨some d, .slice t x none (some y) none, ty, Zc, af, g⟩) (hg : Zk ops E g = true) (hd : Nat.ble (d + 1) C.n = true)
    (hx : ev E x = some (.slice base n c)) (hy : ev E y = some (.int k p)) (ht : Xi C.P t = some e) (hs : Yq C.P e = some s) (h0 : 0 ≤ p) (h1 : p ≤ c)
    (kk : TO C ops Q l ((d, .slice base p.toNat c) :: E) H) : TO C ops Q (i :: l) E H :=
  TO.val ho hg hd (by simp) (fun a w hf hi => by
    have hu := Kp ht
    have hb : ∀ b : Option Addr, Option.map (fun x => x.add 0) b = b := fun b => by cases b <;> simp [Addr.add]
    simp [execOp, hf.ev hx, hf.ev hy, Instr.sliceAt, Instr.slice, Instr.sliceBounds, Instr.sliceBound, asIntOf, run_underlying hu, h0, h1, Gx hs, hb]) kk
structure RO {α : Type} (w : World) (f : α → List Value) (s : Nat) (base : Option Addr) (n : Nat) (xs : List α) : Prop where
  len : xs.length = n
  nil : base = none → n = 0
  wide : ∀ x, (f x).length = s
  cell : ∀ o c, o < xs.length → c < s → ∀ x, xs[o]? = some x → w.cell? (ea base (o * s + c)) = (f x)[c]?
section ro
variable {α : Type} {w w0 : World} {f : α → List Value} {s n : Nat} {base : Option Addr} {xs : List α} {M : List Nat}
theorem RO.at (h : RO w f s base n xs) (dflt : α) {o c : Nat} (ho : o < xs.length) (hc : c < s) : w.cell? (ea base (o * s + c)) = (f (xs.getD o dflt))[c]? :=
 h.cell o c ho hc _ (by rw [List.getElem?_eq_getElem ho, List.getD_eq_getElem?_getD, List.getElem?_eq_getElem ho]; rfl)
theorem RO.mono (h : RO w0 f s base n xs) (hi : Inv w0 [] w H) : RO w f s base n xs :=
 ⟨h.len, h.nil, h.wide, fun o c ho hc x hx => by
  have h1 := h.cell o c ho hc x hx
  have hcl : c < (f x).length := by rw [h.wide]; exact hc
  rw [List.getElem?_eq_getElem hcl] at h1 ⊢
  exact hi.cell_old h1 (by simp)⟩
theorem Z6r (w : World) (hf : ∀ x, (f x).length = s) : RO w f s none 0 ([] : List α) := ⟨rfl, fun _ => rfl, hf, fun o c h => by simp at h⟩
theorem Inv.ro (hi : Inv w0 M w H) (hf : ∀ x, (f x).length = s) {b : Nat} {T' : TypeId} {fr : Nat × Nat} {j : List Value} (hm : (some b, Obj.cells (arr f xs j).toArray T' fr) ∈ H) : RO w f s (some ⟨b, 0, none⟩) xs.length xs :=
 ⟨rfl, by simp, hf, fun o c ho hc x hx => by
  rw [show ea (some ⟨b, 0, none⟩) (o * s + c) = ⟨b, o * s + c, none⟩ by simp [ea, Addr.add_mid], hi.cell_own hm, List.getElem?_toArray, Z8q hf x xs j o c ho hc]
  rw [List.getD_eq_getElem?_getD, hx]; rfl⟩
theorem RO.take (h : RO w f s base n xs) {m : Nat} (hm : m ≤ n) : RO w f s base m (xs.take m) :=
 ⟨by rw [List.length_take, h.len]; omega, fun hb => by have := h.nil hb; omega, h.wide, fun o c ho hc x hx => by
  have : o < m := by rw [List.length_take] at ho; omega
  rw [List.getElem?_take_of_lt this] at hx
  exact h.cell o c (by rw [List.length_take] at ho; omega) hc x hx⟩
end ro
theorem Z5v (base : Option Addr) (n m : Nat) : (ea base n).add m = ea base (n + m) := by
 unfold ea Addr.add
 by_cases h1 : n = 0
 · subst h1; simp
 ·
  by_cases h2 : m = 0
  · subst h2; simp
  ·
   rw [if_neg h2, if_neg h1, if_neg (show n + m ≠ 0 by omega)]
   simp [Nat.add_assoc]
theorem TO.buildSlice {t e : TypeId} {n : Nat} {ps : Array (Nat × Operand)} {vs : List (Nat × Value)} {cs : Array Value} {z : Value} {s : Nat} (ho : ops[i]? = some ⟨some d, .buildSlice t n ps, ty, Zc, af, g⟩) (hg : Zk ops E g = true) (hd : Nat.ble (d + 1) C.n = true)
    (hx : evp E ps.toList = some vs) (ht : Xi C.P t = some e) (hs : Yq C.P e = some s) (hz : Wb C.P e = some z) (h24 : Nat.ble (n * s) (2 ^ 24) = true) (hp : Nat.ble 1 (n * s) = true)
    (hfill : Instr.fill (fun i => some (i * s, s)) ((Array.range (n * s)).map (z.cells[· % z.cells.size]!)) vs = some cs)
    (kk : ∀ b, TO C ops Q l ((d, .slice (some ⟨b, 0, none⟩) n n) :: E) ((some b, .cells cs e (0, 0)) :: H)) : TO C ops Q (i :: l) E H := by
  obtain ⟨ti, hti, hsz⟩ := Z58 hs
  have hz' : ti.zero = some z := by simpa [Wb, hti] using hz
  refine Z1b (fun b => .slice (some ⟨b, 0, none⟩) n n) ho hg hd (by simp) (fun a w hf hi => ?_) kk
  have e1 : (ps.map (fun p => (p.1, a.eval p.2))).toList = vs := by simpa using Z5g hf hx
  have h24' := Nat.le_of_ble_eq_true h24
  have hp' := Nat.le_of_ble_eq_true hp
  have hr := run_buildSlice (P := C.P) w t e n (ps.map (fun p => (p.1, a.eval p.2))) cs ti z (Kp ht) hti hz' (by rw [hsz]; omega) (by rw [hsz]; omega) (by rw [e1, hsz]; exact hfill)
  simp [execOp, hr]
theorem Ug {t e : TypeId} {n : Nat} {ps : Array (Nat × Operand)} {vs : List (Nat × Value)} {cs : List Value} {z : Value} {s : Nat} (zs : List Value) (offs : List Nat) (q0_ : ops[i]? = some ⟨some d, .buildSlice t n ps, ty, Zc, af, g⟩ ∧ Zk ops E g = true ∧ Nat.ble (d + 1) C.n = true ∧ evp E ps.toList = some vs) (ht : Xi C.P t = some e) (hs : Yq C.P e = some s) (hz : Wb C.P e = some z) (q1_ : Nat.ble (n * s) (2 ^ 24) = true ∧ Nat.ble 1 (n * s) = true)
    (_hcs : Xb offs zs vs = cs)
    (hfill : Instr.fill (fun i => some (i * s, s)) ((Array.range (n * s)).map (z.cells[· % z.cells.size]!)) vs = some cs.toArray)
    (kk : ∀ b, TO C ops Q l ((d, .slice (some ⟨b, 0, none⟩) n n) :: E) ((some b, .cells cs.toArray e (0, 0)) :: H)) : TO C ops Q (i :: l) E H := have ⟨ho, hg, hd, hx⟩ := q0_; have ⟨h24, hp⟩ := q1_;
  TO.buildSlice ho hg hd hx ht hs hz h24 hp hfill kk
theorem Zak {t e : TypeId} {s : Nat} (q0_ : ops[i]? = some ⟨some d, .buildSlice t 0 #[], ty, Zc, af, g⟩ ∧ Zk ops E g = true ∧ Nat.ble (d + 1) C.n = true)
    (ht : Xi C.P t = some e) (hs : Yq C.P e = some s)
    (kk : ∀ b, TO C ops Q l ((d, .slice (some ⟨b, 0, none⟩) 0 0) :: E) ((some b, .cells #[] e (0, 0)) :: H)) : TO C ops Q (i :: l) E H := by
  obtain ⟨ho, hg, hd⟩ := q0_
  refine Z1b (fun b => .slice (some ⟨b, 0, none⟩) 0 0) ho hg hd (by simp) (fun a w hf hi => ?_) kk
  simp [execOp, Instr.buildSlice, run_underlying (Kp ht), Gx hs, Instr.fill, newRow, Array.range_zero']
theorem TO.len {t : TypeId} {at' : Array TypeId} {x : Operand} {e : TypeId} {base : Option Addr} {n c : Nat}
    (ho : ops[i]? = some ⟨some d, .call ⟨.builtin .len, #[x], at'⟩, ty, Zc, af, g⟩) (hg : Zk ops E g = true) (hd : Nat.ble (d + 1) C.n = true) (hat : at'[0]? = some t)
    (hx : ev E x = some (.slice base n c)) (ht : Xi C.P t = some e) (kk : TO C ops Q l ((d, .int .i64 n) :: E) H) : TO C ops Q (i :: l) E H :=
  TO.val ho hg hd (by simp) (fun a w hf _ => by
    simp [execOp, resolve, invoke, builtin, hf.ev hx, Builtin.len_, hat, run_underlying (Kp ht), goInt]) kk
theorem TO.min2 {at' : Array TypeId} {x y : Operand} {k : IntKind} {p q : Int}
    (q0_ : ops[i]? = some ⟨some d, .call ⟨.builtin .min, #[x, y], at'⟩, ty, Zc, af, g⟩ ∧ Zk ops E g = true ∧ Nat.ble (d + 1) C.n = true ∧ ev E x = some (.int k p) ∧ ev E y = some (.int k q)) (kk : TO C ops Q l ((d, .int k (min p q)) :: E) H) : TO C ops Q (i :: l) E H := have ⟨ho, hg, hd, hx, hy⟩ := q0_;
  TO.val ho hg hd (by simp) (fun a w hf _ => by
    have : (if q < p then q else p) = min p q := by rw [Int.min_def]; split <;> split <;> omega
    simp [execOp, resolve, invoke, builtin, hf.ev hx, hf.ev hy, Builtin.min_, Builtin.min2, this]) kk
theorem Z2v {o : Oper} {f : FuncId} {args : Array Value} {M : List Nat} {Hm : Heap} {Post : Value → Heap → Prop}
    (ho : ops[i]? = some o) (hg : Zk ops E o.guard = true) (hdst : o.dst = some d) (hnd : ∀ c, o.op ≠ .defer c) (hd : Nat.ble (d + 1) C.n = true)
    (hrun : ∀ a w, Fits C.n C.D E a → Inv C.w0 C.M w H → (execOp a.eval o).run C.P w = .ok (.enter f args) w)
    (hH : List.Perm H (Hm ++ R)) (hM : ∀ m, m ∈ M → m ∈ Hm.filterMap (·.1))
    (hc : ∀ w, Inv C.w0 C.M w H → Fnc C.P f args w M Post)
    (kk : ∀ v N, Post v N → TO C ops Q l ((d, v) :: E) (N ++ R)) : TO C ops Q (i :: l) E H :=
  Kk ho hg hnd fun a w hf hi => by
    rw [hrun a w hf hi]
    refine ⟨by simp [FW], ?_⟩
    refine callsIn_FW.2 (Calls.mono (hc w hi) ?_)
    rintro e w' ⟨v, N, hP, rfl, hN⟩
    show wpOpsIn _ _ _ _ _ _ _ _
    rw [hdst]
    exact kk v N hP _ _ (hf.put hd v) (hi.join hH hM hN)
def Zz (P : Program) (f : FuncId) : Bool :=
  match P.funcs[f]? with
  | some fn => fn.body.isSome && !(fn.name == "runtime.NumGoroutine")
  | none => false
theorem Kr {P : Program} {f : FuncId} (h : Zz P f = true) (args : Array Value) (w : World) : (callFunc f args).run P w = .ok (.enter f args) w := by
 unfold Zz at h
 cases hf : P.funcs[f]? with
 | none => simp [hf] at h
 | some fn =>
  simp only [hf, Bool.and_eq_true, Bool.not_eq_true'] at h
  have h2 : ¬ fn.body = none := by cases hb : fn.body <;> simp_all
  have h3 : ¬ fn.name = "runtime.NumGoroutine" := by simpa using h.2
  simp [callFunc, hf, h3, h2]
theorem TO.call {f : FuncId} {xs : Array Operand} {at' : Array TypeId} {vs : List Value} {Post : Value → Heap → Prop}
    (ho : ops[i]? = some ⟨some d, .call ⟨.value (.func f), xs, at'⟩, ty, Zc, af, g⟩) (hg : Zk ops E g = true) (hd : Nat.ble (d + 1) C.n = true) (hF : Zz C.P f = true)
    (hx : Wx E xs.toList = some vs)
    (hc : ∀ w, Inv C.w0 C.M w H → Fnc C.P f vs.toArray w [] Post)
    (kk : ∀ v N, Post v N → TO C ops Q l ((d, v) :: E) (N ++ H)) : TO C ops Q (i :: l) E H :=
  Z2v (Hm := []) (R := H) ho hg rfl (by simp) hd (fun a w hf hi => by
    have e1 : xs.map a.eval = vs.toArray := by apply Array.ext'; simpa using Jh hf hx
    simp [execOp, resolve, Deferred.ofValue, invoke, Act.eval, e1, Kr hF]) (List.Perm.refl _) (by simp) hc kk
theorem TO.callV {f : FuncId} {x : Operand} {xs : Array Operand} {at' : Array TypeId} {vs : List Value} {fs cs : Array Value} {Post : Value → Heap → Prop}
    (ho : ops[i]? = some ⟨some d, .call ⟨.value x, xs, at'⟩, ty, Zc, af, g⟩) (hg : Zk ops E g = true) (hd : Nat.ble (d + 1) C.n = true) (hF : Zz C.P f = true)
    (hfv : ev E x = some (.func (.func f) fs cs)) (hx : Wx E xs.toList = some vs)
    (hc : ∀ w, Inv C.w0 C.M w H → Fnc C.P f (fs ++ vs.toArray ++ cs) w [] Post)
    (kk : ∀ v N, Post v N → TO C ops Q l ((d, v) :: E) (N ++ H)) : TO C ops Q (i :: l) E H :=
  Z2v (Hm := []) (R := H) ho hg rfl (by simp) hd (fun a w hf hi => by
    have e1 : xs.map a.eval = vs.toArray := by apply Array.ext'; simpa using Jh hf hx
    simp [execOp, resolve, Deferred.ofValue, invoke, hf.ev hfv, e1, Kr hF]) (List.Perm.refl _) (by simp) hc kk
theorem Zex {f : FuncId} {x : Operand} {xs : Array Operand} {at' : Array TypeId} {vs : List Value} {fs cs : Array Value} {M : List Nat} {Hm : Heap} {Post : Value → Heap → Prop}
    (ho : ops[i]? = some ⟨some d, .call ⟨.value x, xs, at'⟩, ty, Zc, af, g⟩) (hg : Zk ops E g = true) (hd : Nat.ble (d + 1) C.n = true) (hF : Zz C.P f = true)
    (hfv : ev E x = some (.func (.func f) fs cs)) (hx : Wx E xs.toList = some vs)
    (hH : List.Perm H (Hm ++ R)) (hM : ∀ m, m ∈ M → m ∈ Hm.filterMap (·.1))
    (hc : ∀ w, Inv C.w0 C.M w H → Fnc C.P f (fs ++ vs.toArray ++ cs) w M Post)
    (kk : ∀ v N, Post v N → TO C ops Q l ((d, v) :: E) (N ++ R)) : TO C ops Q (i :: l) E H :=
  Z2v ho hg rfl (by simp) hd (fun a w hf hi => by
    have e1 : xs.map a.eval = vs.toArray := by apply Array.ext'; simpa using Jh hf hx
    simp [execOp, resolve, Deferred.ofValue, invoke, hf.ev hfv, e1, Kr hF]) hH hM hc kk
end rules
section ends
variable {C : Cx} {E : Env} {H N : Heap}
def Z0g (tmps : Array Value) : ResultVar → Sem Value
  | .tmp t => pure (tmps.getD t undef)
  | .cell x t => do loadVar t (← asAddr (tmps.getD x undef))
theorem Zcb (fn : Func) (tmps : Array Value) : results fn tmps = (do
    let vs ← fn.results.mapM (Z0g tmps)
    pure (if h : vs.size = 1 then vs[0] else .tuple vs)) := by
  unfold results
  congr 2
def Res (C : Cx) (E : Env) (H : Heap) (r : ResultVar) (v : Value) : Prop := ∀ a w, Fits C.n C.D E a → Inv C.w0 C.M w H → (Z0g a.tmps r).run C.P w = .ok v w
theorem Res.tmp {t : Nat} {v : Value} (h : find E t = some v) : Res C E H (.tmp t) v := fun a w hf _ => by simp only [Z0g, hf.get t v h]; rfl
theorem Jr {x k : Nat} {t T' : TypeId} {b : Nat} {cs : List Value} {fr : Nat × Nat} (h : find E x = some (.pointer (some ⟨b, 0, none⟩))) (hT : Vr C.P t k = true) (hm : (some b, Obj.cells cs.toArray T' fr) ∈ H) (hk : cs.length = k) :
    Res C E H (.cell x t) (.agg cs.toArray) := fun a w hf hi => by
  have := Z5x (P := C.P) (w := w) hT hk (a := ⟨b, 0, none⟩) (fun j v hv => by rw [Addr.add_mid, Nat.zero_add, hi.cell_own hm]; simpa using hv)
  simp only [Z0g, hf.get x _ h, asAddr, Sem.run_bind, Sem.run_pure, Result.andThen_ok, this]
theorem Z05 {x o : Nat} {t T' : TypeId} {b : Nat} {cs : Array Value} {fr : Nat × Nat} {v : Value} (h : find E x = some (.pointer (some ⟨b, o, none⟩))) (hT : Xv C.P t = true) (hm : (some b, Obj.cells cs T' fr) ∈ H) (hv : cs[o]? = some v) :
    Res C E H (.cell x t) v := fun a w hf hi => by
  have := Z5n hT (show w.cell? ⟨b, o, none⟩ = some v by rw [hi.cell_own hm]; exact hv)
  simp only [Z0g, hf.get x _ h, asAddr, Sem.run_bind, Sem.run_pure, Result.andThen_ok, this]
def Rr : List Value → Value
  | [u] => u
  | vs => .tuple vs.toArray
theorem X.ret {fn : Func} {rs : List ResultVar} {vs : List Value} {v : Value} {w0 : World} {M : List Nat} {Post : Value → Heap → Prop} (hw : C.w0 = w0) (hMM : C.M = M) (hD : C.D = []) (hfn : fn.results.toList = rs)
    (hr : ∀ (j : Nat) r u, rs[j]? = some r → vs[j]? = some u → Res C E H r u) (q0_ : rs.length = vs.length ∧ v = Rr vs)
    (hN : Pick N H) (hP : Post v N) : X C (bodyPost C.P fn (Xu w0 M Post)) .ret E H := by
  obtain ⟨hl, hv⟩ := q0_
  intro a w hf hi
  refine ⟨hf.defers.trans hD, v, ?_, v, N, hP, rfl, by rw [← hw, ← hMM]; exact hi.pick hN⟩
  have key : ∀ (rs : List ResultVar) (vs : List Value), rs.length = vs.length → (∀ (j : Nat) r u, rs[j]? = some r → vs[j]? = some u → Res C E H r u) →
      (rs.mapM (Z0g a.tmps)).run C.P w = .ok vs w := by
    intro rs
    induction rs with
    | nil => intro vs hl _; cases vs <;> simp_all
    | cons r rs ih =>
      intro vs hl h
      cases vs with
      | nil => simp at hl
      | cons u vs =>
        have h0 := h 0 r u rfl rfl a w hf hi
        have h1 := ih vs (by simpa using hl) (fun j r' u' hj hu => h (j + 1) r' u' (by simpa using hj) (by simpa using hu))
        simp only [List.mapM_cons, Sem.run_bind, h0, Result.andThen_ok, h1, Sem.run_pure]
  have := key rs vs hl hr
  rw [Zcb, ← Array.toArray_toList (xs := fn.results), hfn, List.mapM_toArray]
  simp only [Sem.run_bind, Sem.run_map, this, Result.andThen_ok, Sem.run_pure]
  rw [hv]
  cases vs with
  | nil => simp [Rr]
  | cons u vs =>
    cases vs with
    | nil => simp [Rr]
    | cons u' vs => simp [Rr]
theorem Yi {fn : Func} {r : ResultVar} {v : Value} {w0 : World} {M : List Nat} {Post : Value → Heap → Prop} (q0_ : C.w0 = w0 ∧ C.M = M ∧ C.D = [] ∧ fn.results.toList = [r]) (hr : Res C E H r v) (hN : Pick N H) (hP : Post v N) :
    X C (bodyPost C.P fn (Xu w0 M Post)) .ret E H := have ⟨hw, hMM, hD, hfn⟩ := q0_;
  X.ret (vs := [v]) hw hMM hD hfn (fun j r' u h1 h2 => by
    cases j with
    | zero => simp at h1 h2; subst h1; subst h2; exact hr
    | succ j => simp at h1) Yy hN hP
theorem Ga {fn : Func} {r r' : ResultVar} {v v' : Value} {w0 : World} {M : List Nat} {Post : Value → Heap → Prop} (q0_ : C.w0 = w0 ∧ C.M = M ∧ C.D = [] ∧ fn.results.toList = [r, r']) (hr : Res C E H r v) (hr' : Res C E H r' v') (hN : Pick N H) (hP : Post (.tuple #[v, v']) N) :
    X C (bodyPost C.P fn (Xu w0 M Post)) .ret E H := have ⟨hw, hMM, hD, hfn⟩ := q0_;
  X.ret (vs := [v, v']) hw hMM hD hfn (fun j r'' u h1 h2 => by
    match j with
    | 0 => simp at h1 h2; subst h1; subst h2; exact hr
    | 1 => simp at h1 h2; subst h1; subst h2; exact hr'
    | j + 2 => simp at h1) Yy hN hP
def Jy : Nat → List Value → Env
  | _, [] => []
  | k, v :: vs => (k, v) :: Jy (k + 1) vs
theorem Rn : ∀ (vs : List Value) (k t : Nat) (v : Value), find (Jy k vs) t = some v → k ≤ t ∧ vs[t - k]? = some v
 | [], k, t, v, h => by simp [Jy, find] at h
 | u :: vs, k, t, v, h => by
  simp only [Jy] at h
  rw [Uu] at h
  by_cases e : k = t
  · subst e; rw [if_pos rfl] at h; simpa using h
  ·
   rw [if_neg e] at h
   obtain ⟨h1, h2⟩ := Rn vs (k + 1) t v h
   refine ⟨by omega, ?_⟩
   have : t - k = (t - (k + 1)) + 1 := by omega
   rw [this]; simpa using h2
theorem Fnc.enter {P : Program} {f : FuncId} {fn : Func} {c : Code} {vs : List Value} {w : World} {M : List Nat} {H : Heap} {Post : Value → Heap → Prop}
    (hf : P.funcs[f]? = some fn) (hb : fn.body = some c) (hn : Nat.ble vs.length fn.ntmps = true) (hi : Inv w M w H)
    (h : T ⟨P, none, fn.ntmps, [], w, M⟩ c (bodyPost P fn (Xu w M Post)) (Jy 0 vs) H) : Fnc P f vs.toArray w M Post := by
  have hn' := Nat.le_of_ble_eq_true hn
  refine callsIn_FW (ρ := none) (n := 0) |>.1 (callsIn_of_wp hf hb trivial ?_ rfl)
  refine h _ w ⟨by simp; omega, rfl, fun t v hv => ?_⟩ hi
  obtain ⟨_, h2⟩ := Rn vs 0 t v hv
  rw [Nat.sub_zero] at h2
  have hlt := (List.getElem?_eq_some_iff.1 h2).1
  simp only [Array.getD_eq_getD_getElem?]
  rw [Array.getElem?_append_left (by simpa using hlt)]
  simp [h2]
end ends
end Go.Acq
namespace Go.Acq
open Go Go.RowKit
def Gd (ops : Array Oper) : Bool := (List.range ops.size).all fun i => match ops[i]? with
  | some o => o.after.all fun e => !Region.binds .any e || Nat.blt e.on i
  | none => false
section any
variable {F : Fence} {P : Program} {ops : Array Oper} {Q : Exit → Act → World → Prop}
theorem Zel {listed : Array Bool} (hb : Gd ops = true) (h : Region.ready .any ops listed = []) : ∀ i, i < ops.size → listed.getD i true = true := by
 intro i
 induction i using Nat.strongRecOn with
 | _ i ih =>
  intro hi
  cases hl : listed.getD i true with
  | true => rfl
  | false =>
   exfalso
   have hb' := List.all_eq_true.1 hb i (List.mem_range.2 hi)
   have ho : ops[i]? = some ops[i] := Array.getElem?_eq_getElem hi
   rw [ho] at hb'
   have : i ∈ Region.ready .any ops listed := by
    rw [mem_ready]
    refine ⟨hl, ops[i], ho, ?_⟩
    intro e he hbe
    have h2 := Array.all_eq_true_iff_forall_mem.1 hb' e he
    rw [hbe] at h2
    have hlt : e.on < i := by simpa using h2
    have := ih e.on hlt (by omega)
    have hsz : listed.getD e.on false = true := by
     rw [Array.getD_eq_getD_getElem?] at this hl ⊢
     cases hq : listed[e.on]? with
     | some b => rw [hq] at this; simpa using this
     | none =>
      have h3 : listed[i]? = none := by
       rw [Array.getElem?_eq_none_iff] at hq ⊢
       omega
      rw [h3] at hl; simp at hl
    exact hsz
   rw [h] at this
   cases this
theorem Z8h (J : (Nat → Bool) → Act → World → Prop) (hb : Gd ops = true)
    (hstep : ∀ (done : Nat → Bool) i o a w, ops[i]? = some o → done i = false → (∀ e, e ∈ o.after → Region.binds .any e = true → done e.on = true) → J done a w →
      wpOpIn F 0 P ops Q i (fun a' w' => J (fun m => if m = i then true else done m) a' w') a w)
    (hend : ∀ (done : Nat → Bool) a w, (∀ i, i < ops.size → done i = true) → J done a w → Q .normal a w) :
    ∀ (fuel : Nat) (listed : Array Bool) a w, listed.size = ops.size → ((List.range ops.size).filter (fun i => !listed.getD i true)).length ≤ fuel → J (fun m => listed.getD m false) a w →
      wpAnyIn F 0 P .any ops Q fuel listed a w := by
  have hfin : ∀ (listed : Array Bool) a w, listed.size = ops.size → Region.ready .any ops listed = [] → J (fun m => listed.getD m false) a w → Q .normal a w := by
    intro listed a w hs hr hJ
    refine hend _ a w (fun i hi => ?_) hJ
    have := Zel hb hr i hi
    rw [Array.getD_eq_getD_getElem?] at this ⊢
    rw [Array.getElem?_eq_getElem (by omega)] at this ⊢
    simpa using this
  intro fuel
  induction fuel with
  | zero =>
    intro listed a w hs hf hJ
    have hr : Region.ready .any ops listed = [] := by
      cases hq : Region.ready .any ops listed with
      | nil => rfl
      | cons i l =>
        exfalso
        have hm : i ∈ Region.ready .any ops listed := by rw [hq]; exact .head _
        obtain ⟨hl, o, ho, _⟩ := mem_ready.1 hm
        have hi : i < ops.size := (Array.getElem?_eq_some_iff.1 ho).1
        have : i ∈ (List.range ops.size).filter (fun i => !listed.getD i true) := List.mem_filter.2 ⟨List.mem_range.2 hi, by simp [hl]⟩
        have := List.length_pos_of_mem this
        omega
    exact ⟨hr, hfin listed a w hs hr hJ⟩
  | succ fuel ih =>
    intro listed a w hs hf hJ
    refine ⟨fun hr => hfin listed a w hs hr hJ, fun i hm => ?_⟩
    obtain ⟨hl, o, ho, hafter⟩ := mem_ready.1 hm
    have hi : i < ops.size := (Array.getElem?_eq_some_iff.1 ho).1
    have hli : listed[i]? = some false := by
      rw [Array.getD_eq_getD_getElem?] at hl
      cases hq : listed[i]? with
      | none => rw [hq] at hl; simp at hl
      | some b => rw [hq] at hl; simp at hl; rw [hl]
    have hd : (fun m => listed.getD m false) i = false := by
      show listed.getD i false = false
      rw [Array.getD_eq_getD_getElem?, hli]; rfl
    refine wpOpIn_mono (fun a' w' hJ' => ih _ a' w' (by simp [hs]) ?_ ?_) (hstep _ i o a w ho hd hafter hJ)
    · have hsub : (List.range ops.size).filter (fun j => !(listed.setIfInBounds i true).getD j true) = ((List.range ops.size).filter (fun j => !listed.getD j true)).filter (fun j => decide (j ≠ i)) := by
        rw [List.filter_filter]
        apply List.filter_congr
        intro j hj
        have hjs : j < ops.size := List.mem_range.1 hj
        simp only [Array.getD_eq_getD_getElem?, Array.getElem?_setIfInBounds]
        by_cases e : i = j
        · subst e; simp [hs, hjs]
        · rw [if_neg e]
          have : decide (j ≠ i) = true := by simpa using fun h => e h.symm
          rw [this]; simp
      rw [hsub]
      have hmem : i ∈ (List.range ops.size).filter (fun j => !listed.getD j true) := List.mem_filter.2 ⟨List.mem_range.2 hi, by simp [hl]⟩
      have : (((List.range ops.size).filter (fun j => !listed.getD j true)).filter (fun j => decide (j ≠ i))).length < ((List.range ops.size).filter (fun j => !listed.getD j true)).length := by
        rw [List.length_filter_lt_length_iff_exists]
        exact ⟨i, hmem, by simp⟩
      omega
    · have : (fun m => (listed.setIfInBounds i true).getD m false) = (fun m => if m = i then true else listed.getD m false) := by
        funext m
        simp only [Array.getD_eq_getD_getElem?, Array.getElem?_setIfInBounds]
        by_cases e : i = m
        · subst e
          have : i < listed.size := by omega
          simp [this]
        · rw [if_neg e, if_neg (fun h => e h.symm)]
      rw [this]; exact hJ'
end any
def Vk (ops : Array Oper) : Nat → Nat → Nat → Bool
  | 0, _, _ => false
  | f + 1, i, j => match ops[i]? with
    | some o => (o.after.toList.any fun e => Region.binds .any e && Nat.beq e.on j) || (o.after.toList.any fun e => Region.binds .any e && Vk ops f e.on j)
    | none => false
def Lr (ops : Array Oper) (m : Nat) : Bool := (List.range ops.size).all fun i => Nat.blt i m || (List.range i).all fun j => Vk ops ops.size i j
section phase
variable {F : Fence} {P : Program} {ops : Array Oper} {Q : Exit → Act → World → Prop}
def Gh (ops : Array Oper) (done : Nat → Bool) : Prop := ∀ (i : Nat) (o : Oper), ops[i]? = some o → done i = true → ∀ e, e ∈ o.after → Region.binds .any e = true → done e.on = true
theorem Nw {done : Nat → Bool} (hc : Gh ops done) : ∀ (f i j : Nat), Vk ops f i j = true → (∀ (o : Oper), ops[i]? = some o → ∀ e, e ∈ o.after → Region.binds .any e = true → done e.on = true) → done j = true
 | 0, i, j, h, _ => by simp [Vk] at h
 | f + 1, i, j, h, hd => by
  unfold Vk at h
  cases ho : ops[i]? with
  | none => rw [ho] at h; simp at h
  | some o =>
   rw [ho] at h
   simp only [Bool.or_eq_true, List.any_eq_true] at h
   rcases h with h | h
   ·
    obtain ⟨e, he, h2⟩ := h
    simp only [Bool.and_eq_true] at h2
    rw [← Nat.eq_of_beq_eq_true h2.2]
    exact hd o ho e (by simpa using he) h2.1
   ·
    obtain ⟨e, he, h2⟩ := h
    simp only [Bool.and_eq_true] at h2
    have hde := hd o ho e (by simpa using he) h2.1
    exact Nw hc f e.on j h2.2 (fun o' ho' e' he' hb' => hc e.on o' ho' hde e' he' hb')
theorem Z84 {id : Nat} {m : Nat} (Jp : (Nat → Bool) → Act → World → Prop) (hm : P.follows .mixedOrders = true) (hb : Gd ops = true) (ht : Lr ops m = true) (hms : m ≤ ops.size)
    (hstep : ∀ (done : Nat → Bool) i o a w, i < m → ops[i]? = some o → done i = false → Gh ops done → (∀ e, e ∈ o.after → Region.binds .any e = true → done e.on = true) → (∀ j, m ≤ j → done j = false) → Jp done a w →
      wpOpIn F 0 P ops Q i (fun a' w' => Jp (fun q => if q = i then true else done q) a' w') a w)
    (hend : ∀ (done : Nat → Bool) a w, (∀ i, i < m → done i = true) → Jp done a w → wpOpsIn F 0 P ops Q (List.range' m (ops.size - m)) a w)
    {a : Act} {w : World} (h0 : Jp (fun _ => false) a { w with drawn := w.drawn + 1 }) : (Code.region id ops true).wpIn F 0 P Q a w := by
  have hafter : ∀ (done : Nat → Bool) (i : Nat) (o : Oper), Gh ops done → ops[i]? = some o → m ≤ i → (∀ e, e ∈ o.after → Region.binds .any e = true → done e.on = true) → ∀ j, j < i → done j = true := by
    intro done i o hc ho hmi hd j hj
    have hi : i < ops.size := (Array.getElem?_eq_some_iff.1 ho).1
    have h1 := List.all_eq_true.1 ht i (List.mem_range.2 hi)
    simp only [Bool.or_eq_true] at h1
    rcases h1 with h1 | h1
    · have : i < m := by simpa using h1
      omega
    · exact Nw hc _ i j (List.all_eq_true.1 h1 j (List.mem_range.2 hj)) (fun o' ho' => by rw [ho] at ho'; injection ho' with ho'; subst ho'; exact hd)
  have hclosed : ∀ (done : Nat → Bool) (i : Nat) (o : Oper), Gh ops done → ops[i]? = some o → (∀ e, e ∈ o.after → Region.binds .any e = true → done e.on = true) → Gh ops (fun q => if q = i then true else done q) := by
    intro done i o hc ho hd j o' ho' hj e he hbe
    show (if e.on = i then true else done e.on) = true
    by_cases hei : e.on = i
    · rw [if_pos hei]
    · rw [if_neg hei]
      by_cases hji : j = i
      · subst hji; rw [ho] at ho'; injection ho' with ho'; subst ho'; exact hd e he hbe
      · have hj' : done j = true := by simpa [hji] using hj
        exact hc j o' ho' hj' e he hbe
  refine wpIn_region_any hm (Z8h (J := fun done a w => Gh ops done ∧ (((∃ i, i < m ∧ done i = false) ∧ (∀ j, m ≤ j → done j = false) ∧ Jp done a w) ∨ (∃ q, m ≤ q ∧ q ≤ ops.size ∧ (∀ j, j < q → done j = true) ∧ (∀ j, q ≤ j → done j = false) ∧ wpOpsIn F 0 P ops Q (List.range' q (ops.size - q)) a w)))
    hb ?_ ?_ ops.size (Array.replicate ops.size false) a _ (by simp) ?_ ?_)
  · rintro done i o a w ho hdi hd ⟨hc, hJ⟩
    have hi : i < ops.size := (Array.getElem?_eq_some_iff.1 ho).1
    rcases hJ with ⟨⟨i0, hi0, hdi0⟩, htail, hJp⟩ | ⟨q, hmq, hqs, hlow, hhigh, hw⟩
    · have him : i < m := by
        rcases Nat.lt_or_ge i m with h | h
        · exact h
        · have := hafter done i o hc ho h hd i0 (by omega)
          rw [hdi0] at this; cases this
      refine wpOpIn_mono (fun a' w' hJ' => ⟨hclosed done i o hc ho hd, ?_⟩) (hstep done i o a w him ho hdi hc hd htail hJp)
      rcases Classical.em (∃ j, j < m ∧ (if j = i then true else done j) = false) with hex | hno
      · exact .inl ⟨hex, fun j hj => by show (if j = i then true else done j) = false; rw [if_neg (by omega)]; exact htail j hj, hJ'⟩
      · have hall : ∀ j, j < m → (if j = i then true else done j) = true := fun j hj => by
          cases hq : (if j = i then true else done j) with
          | true => rfl
          | false => exact absurd ⟨j, hj, hq⟩ hno
        exact .inr ⟨m, Nat.le_refl _, hms, hall, fun j hj => by show (if j = i then true else done j) = false; rw [if_neg (by omega)]; exact htail j hj, hend _ a' w' hall hJ'⟩
    · have hiq : i = q := by
        rcases Nat.lt_trichotomy i q with h | h | h
        · rw [hlow i h] at hdi; cases hdi
        · exact h
        · have := hafter done i o hc ho (by omega) hd q h
          rw [hhigh q (Nat.le_refl _)] at this; cases this
      subst hiq
      have hsz : ops.size - i = (ops.size - (i + 1)) + 1 := by omega
      rw [hsz, List.range'_succ, wpOpsIn_cons] at hw
      refine wpOpIn_mono (fun a' w' hw' => ⟨hclosed done i o hc ho hd, .inr ⟨i + 1, by omega, by omega, fun j hj => ?_, fun j hj => ?_, hw'⟩⟩) hw
      · show (if j = i then true else done j) = true
        by_cases e : j = i
        · rw [if_pos e]
        · rw [if_neg e]; exact hlow j (by omega)
      · show (if j = i then true else done j) = false
        rw [if_neg (by omega)]; exact hhigh j (by omega)
  · rintro done a w hall ⟨hc, hJ⟩
    rcases hJ with ⟨⟨i0, hi0, hdi0⟩, _, _⟩ | ⟨q, hmq, hqs, hlow, hhigh, hw⟩
    · rw [hall i0 (by omega)] at hdi0; cases hdi0
    · have hq : q = ops.size := by
        rcases Nat.lt_or_ge q ops.size with h | h
        · have := hall q h; rw [hhigh q (Nat.le_refl _)] at this; cases this
        · omega
      subst hq
      simpa [wpOpsIn] using hw
  · have : ((List.range ops.size).filter (fun i => !(Array.replicate ops.size false).getD i true)).length ≤ (List.range ops.size).length := List.length_filter_le _ _
    simpa using this
  · have hf : (fun q => (Array.replicate ops.size false).getD q false) = fun _ => false := by
      funext q
      simp only [Array.getD_eq_getD_getElem?, Array.getElem?_replicate]
      split <;> rfl
    show Gh ops (fun q => (Array.replicate ops.size false).getD q false) ∧ _
    rw [hf]
    refine ⟨fun i o _ h => by simp at h, ?_⟩
    rcases Nat.eq_zero_or_pos m with h | h
    · subst h
      exact .inr ⟨0, Nat.le_refl _, Nat.zero_le _, fun j hj => by omega, fun _ _ => rfl, hend _ _ _ (fun i hi => by omega) h0⟩
    · exact .inl ⟨⟨0, h, rfl⟩, fun _ _ => rfl, h0⟩
end phase
section quiet
variable {C : Cx} {ops : Array Oper} {Q : Exit → Act → World → Prop} {E : Env} {H : Heap}
def Z6t (ops : Array Oper) (L : Env) (i : Nat) : Env :=
  match ops[i]? with
  | some o => o.after.toList.filterMap fun e => cond (Region.binds .any e) (L[e.on]?) none
  | none => []
def Ob (C : Cx) (ops : Array Oper) (Q : Exit → Act → World → Prop) (L W : Env) (H : Heap) (i : Nat) : Prop :=
  ∀ Es : Env, TO C ops (fun e a w => match e with
    | .normal => ∃ p, L[i]? = some p ∧ Fits C.n C.D (p :: (Z6t ops L i ++ (W ++ Es))) a ∧ Inv C.w0 C.M w H
    | e => Q e a w) [i] (Z6t ops L i ++ (W ++ Es)) H
def Obs (C : Cx) (ops : Array Oper) (Q : Exit → Act → World → Prop) (L W : Env) (H : Heap) : List Nat → Prop
  | [] => True
  | i :: l => Ob C ops Q L W H i ∧ Obs C ops Q L W H l
theorem Obs.get {L W : Env} : ∀ {l : List Nat}, Obs C ops Q L W H l → ∀ i, i ∈ l → Ob C ops Q L W H i
 | [], _, i, h => by cases h
 | j :: l, ⟨h1, h2⟩, i, h => by
  rcases List.mem_cons.1 h with rfl | h
  · exact h1
  · exact Obs.get h2 i h
def Na : List Nat → Bool
  | [] => true
  | x :: xs => !(xs.any (Nat.beq x)) && Na xs
theorem Z4m : ∀ {l : List Nat}, Na l = true → l.Nodup
 | [], _ => by simp
 | x :: xs, h => by
  simp only [Na, Bool.and_eq_true, Bool.not_eq_true'] at h
  refine List.nodup_cons.2 ⟨fun hm => ?_, Z4m h.2⟩
  rw [any_beq.2 hm] at h; cases h.1
theorem Z5a : ∀ {L : Env} {t : Nat} {v : Value}, find L t = some v → (t, v) ∈ L
 | [], _, _, h => by simp [find] at h
 | (d, u) :: L, t, v, h => by
  rw [Uu] at h
  by_cases e : d = t
  · subst e; rw [if_pos rfl] at h; injection h with h; subst h; exact .head _
  · rw [if_neg e] at h; exact .tail _ (Z5a h)
end quiet
end Go.Acq
namespace Go.Acq
open Go Go.RowKit
abbrev sb (ob : Option Nat) : Option Addr := ob.map fun b => ⟨b, 0, none⟩
section
variable {α : Type} {w w0 : World} {f : α → List Value} {s n : Nat} {base : Option Addr} {xs : List α} {M : List Nat} {H : Heap}
theorem Inv.roO (hi : Inv w0 M w H) (hf : ∀ x, (f x).length = s) {ob : Option Nat} {T' : TypeId} {fr : Nat × Nat} {j : List Value} (hm : (ob, Obj.cells (arr f xs j).toArray T' fr) ∈ H) (hn : xs.length = n) (h0 : ob = none → n = 0) : RO w f s (sb ob) n xs := by
 cases ob with
 | none =>
  have := h0 rfl
  have hx : xs = [] := List.eq_nil_of_length_eq_zero (by omega)
  subst hx
  exact ⟨hn, fun _ => this, hf, fun o c h => by simp at h⟩
 | some b => rw [← hn]; exact hi.ro hf hm
theorem RO.cells (h : RO w f s base n xs) : ∀ (j : Nat) u, (xs.flatMap f)[j]? = some u → w.cell? (ea base j) = some u := by
 intro j u hj
 have hlt : j < (xs.flatMap f).length := (List.getElem?_eq_some_iff.1 hj).1
 rw [Ge h.wide] at hlt
 have hs : 0 < s := by
  rcases Nat.eq_zero_or_pos s with e | e
  · subst e; simp at hlt
  · exact e
 have ho : j / s < xs.length := Nat.div_lt_of_lt_mul (by rw [Nat.mul_comm]; exact hlt)
 have hc : j % s < s := Nat.mod_lt _ hs
 have hjd : j / s * s + j % s = j := by rw [Nat.mul_comm]; exact Nat.div_add_mod j s
 have hx : xs[j / s]? = some xs[j / s] := List.getElem?_eq_getElem ho
 have h1 := h.cell (j / s) (j % s) ho hc _ hx
 rw [hjd] at h1
 rw [h1]
 have h2 := Z4d h.wide xs[j / s] xs (j / s) (j % s) ho hc
 rw [hjd, hj, List.getD_eq_getElem?_getD, hx] at h2
 exact h2.symm
theorem RO.src {P : Program} {t e' : TypeId} (h : RO w f s base n xs) (hk : P.underlying t = some (.slice e')) (h1 : ∀ x, (f x).all (·.oneCell') = true) (c : Nat) : Src P s t (.slice base n c) n (xs.flatMap f) w := by
 have hall : ∀ u, u ∈ xs.flatMap f → u.oneCell' = true := by
  intro u hu
  obtain ⟨x, _, hx⟩ := List.mem_flatMap.1 hu
  exact List.all_eq_true.1 (h1 x) u hx
 cases base with
 | none =>
  have hn := h.nil rfl
  have hx : xs = [] := List.eq_nil_of_length_eq_zero (by rw [h.len]; exact hn)
  subst hx; subst hn
  exact Src.ofNil w hk c
 | some a =>
  refine Src.ofSlice w hk a n c _ (by rw [Ge h.wide, h.len]) (fun j u hj => ?_) hall
  have := h.cells j u hj
  simpa [ea] using this
theorem RO.drew (h : RO w f s base n xs) : RO w.drew f s base n xs := ⟨h.len, h.nil, h.wide, fun o c ho hc x hx => h.cell o c ho hc x hx⟩
theorem RO.first {P : Program} (h : RO w f s base n xs) (c : Nat) : (Builtin.firstCells s n (.slice base n c)).run P w = .ok (xs.flatMap f).toArray w := by
 cases base with
 | none =>
  have hn := h.nil rfl
  have hx : xs = [] := List.eq_nil_of_length_eq_zero (by rw [h.len]; exact hn)
  subst hx; subst hn
  exact run_firstCells_none w s 0 0 c
 | some a => exact run_firstCells_some w s n a n c _ (by rw [Ge h.wide, h.len]) (fun j u hj => by have := h.cells j u hj; simpa [ea] using this)
end
section rules
variable {C : Cx} {ops : Array Oper} {Q : Exit → Act → World → Prop} {l : List Nat} {E : Env} {H R : Heap} {i d : Nat} {ty : TypeId} {Zc : String} {af : Array Edge} {g : Option (Nat × Bool)}
theorem Z7s {P : Program} {w : World} {b o : Nat} {T' : TypeId} {cs : Array Value} {vs : List Value} (hb : w.heap[b]? = some (.cells cs T' (0, 0))) (hfit : o + vs.length ≤ cs.size) (h1 : ∀ u, u ∈ vs → u.oneCell' = true) :
    w.setCells b o vs = w.setRow b (cs.toList.take o ++ vs ++ cs.toList.drop (o + vs.length)).toArray := by
  have h2 := run_storeCells_at P b o T' vs 0 cs w hb (by simpa using hfit) h1
  have h3 := run_storeCells_cells (P := P) b o vs 0 w (fun j hj => by
    simp only [Nat.add_zero, World.cell?, hb]
    simp; omega) (fun j hj => by simp [World.frozen?, hb]) h1
  simp only [Nat.add_zero] at h2 h3
  rw [h2] at h3
  injection h3 with _ h3
  exact h3.symm
structure ElemT (P : Program) (t e : TypeId) (s by' : Nat) (z : Value) : Prop where
  slice : Xi P t = some e
  size : Yq P e = some s
  bytes : Z3y P e = some by'
  zero : Wb P e = some z
  zsize : z.cells.size = s
theorem TO.append {α : Type} {f : α → List Value} {s by' : Nat} {z : Value} {t e : TypeId} {x y : Operand} {ob : Option Nat} {base : Option Addr} {n c m cy : Nat} {xs ys : List α} {j : List Value}
    (hf : ∀ x, (f x).length = s) (h1 : ∀ x, (f x).all (·.oneCell') = true) (hT : ElemT C.P t e s by' z)
    (ho : ops[i]? = some ⟨some d, .call ⟨.builtin .append, #[x, y], #[t, t]⟩, ty, Zc, af, g⟩) (hg : Zk ops E g = true) (hd : Nat.ble (d + 1) C.n = true)
    (hx : ev E x = some (.slice (sb ob) n c)) (hy : ev E y = some (.slice base m cy))
    (ht : Take (ob, .cells (arr f xs j).toArray e (0, 0)) H R) (hn : xs.length = n) (hnc : n ≤ c) (hj : j.length = (c - n) * s) (h0 : ob = none → c = 0)
    (hsrc : ∀ w, Inv C.w0 C.M w H → RO w f s base m ys) (hroom : (n + m) * by' ≤ 140737488355328) (hmax : n + m ≤ 4611686018427387904)
    (kk : ∀ (ob' : Option Nat) (c' : Nat) (j' : List Value), n + m ≤ c' → j'.length = (c' - (n + m)) * s → (ob' = none → c' = 0) → TO C ops Q l ((d, .slice (sb ob') (n + m) c') :: E) ((ob', .cells (arr f (xs ++ ys) j').toArray e (0, 0)) :: R)) :
    TO C ops Q (i :: l) E H := by
  refine Kk ho hg (by simp) fun a w hfit hi => ?_
  obtain ⟨ti, hti, hsz⟩ := Z58 hT.size
  have hu := Kp hT.slice
  have hz' : ti.zero = some z := by have := hT.zero; simpa [Wb, hti] using this
  have hb' : ti.bytes = by' := by have := hT.bytes; simpa [Z3y, hti] using this
  have hs := hsrc w hi
  have hro := hi.roO hf ht.mem hn (fun e => by have := h0 e; omega)
  have hexec : (execOp a.eval ⟨some d, .call ⟨.builtin .append, #[x, y], #[t, t]⟩, ty, Zc, af, g⟩).run C.P w = ((Builtin.append_ #[t, t] ty #[.slice (sb ob) n c, .slice base m cy]).run C.P w).andThen fun v w' => .ok (.value v) w' := by
    simp [execOp, resolve, invoke, builtin, hfit.ev hx, hfit.ev hy]
  rw [hexec]
  by_cases hr : n + m ≤ c
  · cases ob with
    | none =>
      have := h0 rfl
      subst this
      have hm0 : m = 0 := by omega
      subst hm0
      have hys : ys = [] := List.eq_nil_of_length_eq_zero hs.len
      subst hys
      have : (Builtin.append_ #[t, t] ty #[.slice none n 0, .slice base 0 cy]).run C.P w = .ok (.slice none n 0) w := by
        have hl := (hs.src hu h1 cy).len w
        have hc := (hs.src hu h1 cy).cells
        have hn0 : n = 0 := by omega
        subst hn0
        simp only [List.flatMap_nil] at hc
        simp [Builtin.append_, run_underlying hu, sizeOf, typeInfo, hti, hl, hsz, hc]
      simp only [sb, Option.map_none, this, Result.andThen_ok]
      refine kk none 0 j (by omega) (by omega) (fun _ => rfl) _ _ (hfit.put hd _) ?_
      rw [List.append_nil]
      exact hi.perm ht
    | some b =>
      have hb := hi.own b _ ht.mem
      have hlen : (arr f xs j).length = c * s := by
        simp only [arr, List.length_append, Ge hf, hj, hn]
        rw [← Nat.add_mul]; congr 1; omega
      have hnews : (ys.flatMap f).length = m * s := by rw [Ge hf, hs.len]
      have hfit2 : n * s + (ys.flatMap f).length ≤ (arr f xs j).toArray.size := by
        rw [hnews, List.size_toArray, hlen, ← Nat.add_mul]; exact Nat.mul_le_mul_right s hr
      have hall := (hs.src hu h1 cy).one
      have hcell : ∀ q, q < (ys.flatMap f).length → (w.cell? ⟨b, 0 + n * ti.size + q, none⟩).isSome = true := fun q hq => by
        rw [hsz, Nat.zero_add, hi.cell_own ht.mem, Array.getElem?_eq_getElem (by omega)]; rfl
      have hr2 := run_append_room_src (P := C.P) w t t ty e ti hu hti b 0 n c (.slice base m cy) m (ys.flatMap f) (by rw [hsz]; exact hs.src hu h1 cy) hr hcell (fun q _ => hi.frozen_own ht.mem _)
      rw [hsz, Nat.zero_add, Z7s (P := C.P) hb hfit2 hall] at hr2
      simp only [sb, Option.map_some, hr2, Result.andThen_ok]
      refine kk (some b) c (j.drop (m * s)) hr ?_ (by simp) _ _ (hfit.put hd _) ?_
      · rw [List.length_drop, hj, ← Nat.sub_mul]; congr 1; omega
      · have : ((arr f xs j).toArray.toList.take (n * s) ++ ys.flatMap f ++ (arr f xs j).toArray.toList.drop (n * s + (ys.flatMap f).length)).toArray = (arr f (xs ++ ys) (j.drop (m * s))).toArray := by
          have e1 : (xs.flatMap f).length = n * s := by rw [Ge hf, hn]
          simp only [arr, List.flatMap_append]
          rw [hnews]
          congr 1
          rw [← e1, List.take_left', List.drop_append]
          · simp [e1, List.append_assoc, List.drop_eq_nil_of_le (show (xs.flatMap f).length ≤ n * s + m * s by omega)]
          · rfl
        rw [← this]
        exact hi.setRow ht
  · have hold : (Builtin.firstCells ti.size n (.slice (sb ob) n c)).run C.P w.drew = .ok (xs.flatMap f).toArray w.drew := by rw [hsz]; exact hro.drew.first c
    have hg2 := run_append_grow_src (P := C.P) w t t ty e ti z hu hti hz' (sb ob) n c (xs.flatMap f) hold (.slice base m cy) m (ys.flatMap f) (by rw [hsz]; exact hs.src hu h1 cy) (by omega) (by omega) (by
      rw [hb']; exact growslice_fits (by omega) hroom)
    simp only [hg2, Result.andThen_ok]
    have hcap : n + m ≤ grownCap w (n + m) c e := by unfold grownCap Question.cut; simp only; omega
    refine kk (some w.heap.size) (grownCap w (n + m) c e) (Builtin.zeroCells z.cells (grownCap w (n + m) c e - (n + m))).toList hcap (by rw [Array.length_toList, size_zeroCells, hT.zsize]) (by simp) _ _ (hfit.put hd _) ?_
    have e2 : ((xs.flatMap f ++ ys.flatMap f).toArray ++ Builtin.zeroCells z.cells (grownCap w (n + m) c e - (n + m))) = (arr f (xs ++ ys) (Builtin.zeroCells z.cells (grownCap w (n + m) c e - (n + m))).toList).toArray := by
      simp only [arr, List.flatMap_append]
      apply Array.ext'
      simp [List.append_assoc]
    rw [e2]
    have h3 := (hi.perm ht).drew.alloc (Obj.cells (arr f (xs ++ ys) (Builtin.zeroCells z.cells (grownCap w (n + m) c e - (n + m))).toList).toArray e (0, 0))
    exact h3.pick (Rv (S := [(ob, .cells (arr f xs j).toArray e (0, 0))]) (by
      refine List.Perm.cons _ ?_
      exact (List.perm_append_comm (l₁ := [(ob, Obj.cells (arr f xs j).toArray e (0, 0))]) (l₂ := R))))
end rules
end Go.Acq
namespace Go.Acq
open Go Go.RowKit
structure Arc where
  fr : Int
  to : Int
  cap : Int
  deriving DecidableEq
instance : Inhabited Arc := ⟨⟨0, 0, 0⟩⟩
def Zp (a : Arc) : List Value := [.int .i64 a.fr, .int .i64 a.to, .int .i64 a.cap]
theorem arcC_len (a : Arc) : (Zp a).length = 3 := rfl
def Has (w : World) (b : Nat) (cs : List Value) : Prop := ∀ (j : Nat) v, cs[j]? = some v → w.cell? ⟨b, j, none⟩ = some v
section
variable {w w0 : World} {M : List Nat} {H : Heap} {b : Nat} {cs : List Value}
theorem Has.mono (h : Has w0 b cs) (hi : Inv w0 [] w H) : Has w b cs := fun j v hj => hi.cell_old (h j v hj) (by simp)
theorem Inv.has (hi : Inv w0 M w H) {T' : TypeId} {fr : Nat × Nat} (hm : (some b, Obj.cells cs.toArray T' fr) ∈ H) : Has w b cs := fun j v hj => by rw [hi.cell_own hm]; simpa using hj
theorem Inv.step {w' : World} {N : Heap} (h : Inv w0 [] w H) (g : Inv w [] w' N) : Inv w0 [] w' [] := (h.join0 g).pick Zi
end
section rules
variable {C : Cx} {ops : Array Oper} {Q : Exit → Act → World → Prop} {l : List Nat} {E : Env} {H R : Heap} {i d : Nat} {ty : TypeId} {Zc : String} {af : Array Edge} {g : Option (Nat × Bool)}
end rules
theorem Z7e (x : Int) {n : Int} (h : 0 < n) : -n < x.tmod n := by
 have h1 := Int.tmod_lt_of_pos (-x) h
 rw [Int.neg_tmod] at h1; omega
theorem Jt {α : Type} {xs : List α} {k : Nat} (h : k < xs.length) (d : α) : xs.getD k d ∈ xs := by
 rw [List.getD_eq_getElem?_getD, List.getElem?_eq_getElem h]; exact List.getElem_mem h
def Jq (x n : Int) : Int := if n < 1 then 0 else (x.tmod n + n).tmod n
theorem Z0r {x n : Int} (h : 1 ≤ n) : 0 ≤ Jq x n ∧ Jq x n < n := by
 unfold Jq
 rw [if_neg (by omega)]
 have h1 := Int.tmod_lt_of_pos x (show 0 < n by omega)
 have h2 := Z7e x (show 0 < n by omega)
 have h3 := Int.tmod_lt_of_pos (x.tmod n + n) (show 0 < n by omega)
 have h4 := Int.tmod_nonneg n (show 0 ≤ x.tmod n + n by omega)
 omega
def Ud : Int → List Arc → Option Int
  | left, [] => some left
  | left, a :: as => if a.cap < 0 ∨ left < a.cap then none else Ud (left - a.cap) as
theorem Zdl {left : Int} {as : List Arc} {k : Nat} (hk : k < as.length) : Ud left (as.drop k) = if (as.getD k default).cap < 0 ∨ left < (as.getD k default).cap then none else Ud (left - (as.getD k default).cap) (as.drop (k + 1)) := by
 rw [List.drop_eq_getElem_cons hk, Ud, List.getD_eq_getElem?_getD, List.getElem?_eq_getElem hk]; rfl
def Ur (N v : Int) : Bool := decide (0 ≤ v ∧ v < N)
def Kg (N : Int) (a : Arc) : Bool := Ur N a.fr && Ur N a.to
def Gt (a : Arc) : Bool := decide (0 ≤ a.cap)
def Ke (N S T : Int) (as : List Arc) : Int :=
  if ¬(2 ≤ N ∧ N ≤ 4096) then 10 else if ¬((as.length : Int) ≤ 16384) then 11 else if ¬(Ur N S = true ∧ Ur N T = true ∧ S ≠ T) then 12
  else if as.all (Kg N) = false then 13 else if as.all Gt = false then 14 else if (Ud 4611686018427387904 as).isNone then 15 else 0
section
variable {N S T : Int} {n : Nat} {al : List Arc}
end
end Go.Acq
namespace Go.Acq
open Go
abbrev i64ok (x : Int) : Prop := -9223372036854775808 ≤ x ∧ x ≤ 9223372036854775807
abbrev inb (i : Int) (n : Nat) : Prop := 0 ≤ i ∧ i < (n : Int)
abbrev apok (n by' : Nat) : Prop := n * by' ≤ 140737488355328 ∧ n ≤ 4611686018427387904
def gd {α : Type} (c : Prop) [Decidable c] (m : Option α) : Option α := if c then m else none
theorem Yk {α : Type} {c : Prop} [Decidable c] {m : Option α} {o : α} (h : gd c m = some o) : c ∧ m = some o := by
 unfold gd at h; split at h
 · exact ⟨by assumption, h⟩
 · cases h
theorem Xg {α : Type} {c : Prop} [Decidable c] {m : Option α} (h : c) : gd c m = m := if_pos h
theorem Zo {α β : Type} {m : Option α} {k : α → Option β} {o : β} (h : Option.bind m k = some o) : ∃ a, m = some a ∧ k a = some o := by
 cases m with
 | none => cases h
 | some a => exact ⟨a, rfl, h⟩
theorem Yf {α : Type} {c : Prop} [Decidable c] {a b : Option α} {o : α} (h : (if c then a else b) = some o) : (c ∧ a = some o) ∨ (¬c ∧ b = some o) := by
 split at h
 · exact .inl ⟨by assumption, h⟩
 · exact .inr ⟨by assumption, h⟩
def We {S O : Type} (step : S → Option (S ⊕ O)) : Nat → S → Option O
  | 0, _ => none
  | n + 1, s => match step s with
    | none => none
    | some (.inl s') => We step n s'
    | some (.inr o) => some o
def Wg : Nat := 18446744073709551616
def Z2r {S O : Type} (step : S → Option (S ⊕ O)) (n : Nat) (o : O) : S ⊕ O → Prop
  | .inl s => We step n s = some o
  | .inr p => p = o
theorem No {S O : Type} {step : S → Option (S ⊕ O)} {n : Nat} {s : S} {o : O} (h : We step n s = some o) : ∃ n' r, n = n' + 1 ∧ step s = some r ∧ Z2r step n' o r := by
 cases n with
 | zero => cases h
 | succ n =>
  simp only [We] at h
  cases hs : step s with
  | none => rw [hs] at h; cases h
  | some r =>
   rw [hs] at h
   cases r with
   | inl s' => exact ⟨n, _, rfl, rfl, h⟩
   | inr p => exact ⟨n, _, rfl, rfl, by simpa [Z2r] using h⟩
theorem Ns {S O : Type} {step : S → Option (S ⊕ O)} {n : Nat} {o : O} {s : S} {r : S ⊕ O} (h : some (.inl s) = some r) (c : Z2r step n o r) : We step n s = some o := by
 injection h with h; subst h; exact c
theorem ret1 {α : Type} {a b : α} (h : some a = some b) : b = a := by injection h with h; exact h.symm
theorem ret2 {α β : Type} {a a' : α} {b b' : β} (h : some (a, b) = some (a', b')) : a' = a ∧ b' = b := by injection h with h; injection h with h1 h2; exact ⟨h1.symm, h2.symm⟩
def Ok {α : Type} (m : Option α) (Q : α → Prop) : Prop := ∃ a, m = some a ∧ Q a
theorem Ok.some {α : Type} {a : α} {Q : α → Prop} : Ok (Option.some a) Q ↔ Q a := ⟨fun ⟨b, h, hq⟩ => by injection h with h; subst h; exact hq, fun h => ⟨a, rfl, h⟩⟩
theorem Ok.gd {α : Type} {c : Prop} [Decidable c] {m : Option α} {Q : α → Prop} : Ok (Acq.gd c m) Q ↔ c ∧ Ok m Q := by
 constructor
 · rintro ⟨a, h, hq⟩; obtain ⟨h1, h2⟩ := Yk h; exact ⟨h1, a, h2, hq⟩
 · rintro ⟨h1, a, h2, hq⟩; exact ⟨a, by rw [Xg h1]; exact h2, hq⟩
theorem Ok.bind {α β : Type} {m : Option α} {k : α → Option β} {Q : β → Prop} : Ok (Option.bind m k) Q ↔ Ok m fun a => Ok (k a) Q := by
 constructor
 · rintro ⟨b, h, hq⟩; obtain ⟨a, h1, h2⟩ := Zo h; exact ⟨a, h1, b, h2, hq⟩
 · rintro ⟨a, h1, b, h2, hq⟩; exact ⟨b, by rw [h1]; exact h2, hq⟩
theorem Ok.ite {α : Type} {c : Prop} [Decidable c] {a b : Option α} {Q : α → Prop} : Ok (if c then a else b) Q ↔ (c → Ok a Q) ∧ (¬c → Ok b Q) := by
 by_cases h : c <;> simp [h]
theorem Ok.mono {α : Type} {m : Option α} {Q R : α → Prop} (h : Ok m Q) (hq : ∀ a, Q a → R a) : Ok m R := by
 obtain ⟨a, h1, h2⟩ := h; exact ⟨a, h1, hq a h2⟩
theorem Ok.of {α : Type} {m : Option α} {a : α} {Q : α → Prop} (h : m = Option.some a) (hq : Q a) : Ok m Q := ⟨a, h, hq⟩
theorem Z3s {S O : Type} {step : S → Option (S ⊕ O)} {n : Nat} {s0 : S} {Q : O → Prop} (I : S → Prop) (μ : S → Nat) (h0 : I s0) (hn : μ s0 < n)
    (hstep : ∀ s, I s → Ok (step s) fun r => match r with | .inl s' => I s' ∧ μ s' < μ s | .inr o => Q o) : Ok (We step n s0) Q := by
  induction n generalizing s0 with
  | zero => omega
  | succ n ih =>
    obtain ⟨r, h1, h2⟩ := hstep s0 h0
    simp only [We]
    rw [h1]
    cases r with
    | inl s' => exact ih h2.1 (by have := h2.2; omega)
    | inr o => exact ⟨o, rfl, h2⟩
end Go.Acq
namespace Go.Acq
theorem Ka {S O : Type} {step : S → Option (S ⊕ O)} {n : Nat} {o p : O} {r : S ⊕ O} (h : some (.inr p) = some r) (c : Z2r step n o r) : o = p := by
 injection h with h; subst h; exact Eq.symm c
end Go.Acq
namespace Go.Acq
end Go.Acq
namespace Go.Acq
end Go.Acq
namespace Go.Acq
theorem Z5k {α : Type} {ys : List α} {m : Nat} (g : ys.length = m) : ys.length = 0 + m := by rw [g, Nat.zero_add]
end Go.Acq
namespace Go.Acq
abbrev u8ok (x : Int) : Prop := 0 ≤ x ∧ x ≤ 255
end Go.Acq
namespace Go.Acq
theorem Ok.lp {S O : Type} {step : S → Option (S ⊕ O)} {n : Nat} {s0 : S} {Q : O → Prop} (I : S → Prop) (μ : S → Nat) (h0 : I s0) (hn : μ s0 < n)
    (hstep : ∀ s, I s → ∀ P : S ⊕ O → Prop, (∀ s', I s' → μ s' < μ s → P (.inl s')) → (∀ o, Q o → P (.inr o)) → Ok (step s) P) : Ok (We step n s0) Q :=
  Z3s I μ h0 hn fun s hs => hstep s hs _ (fun s' h1 h2 => ⟨h1, h2⟩) (fun o h => h)
end Go.Acq
namespace Go.Acq
def Rm {S X V : Type} (y : S → V → Option (S ⊕ X)) (t : S ⊕ X) (v : V) : Option (S ⊕ X) := match t with | .inl s => y s v | .inr _ => none
theorem Zas {S X V : Type} {y : S → V → Option (S ⊕ X)} {t r : S ⊕ X} {v : V} (h : Rm y t v = some r) : ∃ s, t = .inl s ∧ y s v = some r := by
 cases t with
 | inl s => exact ⟨s, rfl, h⟩
 | inr x => cases h
end Go.Acq
namespace Go.Acq
open Go Go.RowKit
structure Sp where
  deps : List Nat
  eff : Bool
  eats : List Nat
  rel : List Value → Value → Heap → Prop
def Xf (u : Value) : List Value → Value → Heap → Prop := fun _ v e => v = u ∧ e = []
def Yo (S : List Sp) (i : Nat) : List Nat := match S[i]? with | some s => s.deps | none => []
def Yr (S : List Sp) (i : Nat) : Bool := match S[i]? with | some s => s.eff | none => false
def Ji (S : List Sp) (i : Nat) : List Nat := match S[i]? with | some s => s.eats | none => []
def Rg (S : List Sp) (done : Nat → Bool) (j : Nat) : Bool := (List.range S.length).any fun q => done q && (Ji S q).any (Nat.beq j)
def Vx (S : List Sp) (done : Nat → Bool) (j : Nat) : Bool := done j && !Rg S done j
def Gi (S : List Sp) (j : Nat) : Bool := (List.range S.length).any fun q => (Ji S q).any (Nat.beq j)
def Ly (S : List Sp) (i : Nat) : List Nat := (Yo S i).filter fun j => !(Ji S i).any (Nat.beq j)
def Kf (S : List Sp) (i : Nat) : List Value → Value → Heap → Prop := match S[i]? with | some s => s.rel | none => fun _ _ _ => False
def Yj (ops : Array Oper) (i : Nat) : Option Nat := (ops[i]?).bind (·.dst)
def Wl (ops : Array Oper) (vs : Nat → Value) : List Nat → Env
  | [] => []
  | j :: l => match Yj ops j with
    | some d => (d, vs j) :: Wl ops vs l
    | none => Wl ops vs l
def Xo (es : Nat → Heap) : List Nat → Heap
  | [] => []
  | j :: l => es j ++ Xo es l
def Jn (S : List Sp) (vs : Nat → Value) (es : Nat → Heap) : List Nat → Prop
  | [] => True
  | j :: l => Kf S j ((Yo S j).map vs) (vs j) (es j) ∧ Jn S vs es l
def Jw (d : Option Nat) (v : Value) (E : Env) : Env := match d with | some d => (d, v) :: E | none => E
def Vz (ops : Array Oper) : List Nat → List Nat
  | [] => []
  | j :: l => match Yj ops j with
    | some d => d :: Vz ops l
    | none => Vz ops l
def Kt (S : List Sp) (i : Nat) : Nat := ((List.range i).filter (Yr S)).length
def Rl (ops : Array Oper) (S : List Sp) (hd : List (List Nat)) : Bool :=
  ((List.range S.length).all fun i =>
    ((Yo S i).all fun j => Nat.blt j S.length && Vk ops ops.size i j) && Na (Yo S i) &&
    ((Ji S i).all fun j => Nat.blt j i && (Yo S i).any (Nat.beq j) && ((List.range S.length).all fun q => Nat.beq q i || (!(Ji S q).any (Nat.beq j) && (!(Yo S q).any (Nat.beq j) || Vk ops ops.size i q)))) && (!Yr S i || (Ji S i).isEmpty) &&
    (!Yr S i || (((List.range i).all fun j => !Yr S j || Vk ops ops.size i j) &&
      ((hd.getD (Kt S i + 1) []).all fun j => Nat.beq j i || (Nat.blt j S.length && Vk ops ops.size i j))))) &&
  (hd.getD 0 []).isEmpty
section
variable {C : Cx} {ops : Array Oper} {Q : Exit → Act → World → Prop} {E : Env} {H : Heap}
def ObQ (C : Cx) (ops : Array Oper) (Q : Exit → Act → World → Prop) (S : List Sp) (W : Env) (Hc : Heap) (i : Nat) : Prop :=
  ∀ (vs : Nat → Value) (es : Nat → Heap) (Es : Env) (Hx : Heap), Jn S vs es (Yo S i) →
    TO C ops (fun e a w => match e with
      | .normal => ∃ v e', Kf S i ((Yo S i).map vs) v e' ∧ Fits C.n C.D (Jw (Yj ops i) v (Wl ops vs (Yo S i) ++ (W ++ Es))) a ∧ Inv C.w0 C.M w (e' ++ (Hc ++ (Xo es (Ly S i) ++ Hx)))
      | e => Q e a w) [i] (Wl ops vs (Yo S i) ++ (W ++ Es)) (Hc ++ (Xo es (Yo S i) ++ Hx))
def ObE (C : Cx) (ops : Array Oper) (Q : Exit → Act → World → Prop) (S : List Sp) (HR : Nat → List Value → Heap → Prop) (hd : List (List Nat)) (W : Env) (Hc : Heap) (i : Nat) : Prop :=
  ∀ (vs : Nat → Value) (es : Nat → Heap) (Es : Env) (Hx hb : Heap), Jn S vs es (Yo S i) → HR (Kt S i) ((hd.getD (Kt S i) []).map vs) hb →
    TO C ops (fun e a w => match e with
      | .normal => ∃ v hb', Kf S i ((Yo S i).map vs) v [] ∧ HR (Kt S i + 1) ((hd.getD (Kt S i + 1) []).map (fun j => cond (Nat.beq j i) v (vs j))) hb' ∧
          Fits C.n C.D (Jw (Yj ops i) v (Wl ops vs (Yo S i) ++ (W ++ Es))) a ∧ Inv C.w0 C.M w (hb' ++ (Hc ++ (Xo es (Yo S i) ++ Hx)))
      | e => Q e a w) [i] (Wl ops vs (Yo S i) ++ (W ++ Es)) (hb ++ (Hc ++ (Xo es (Yo S i) ++ Hx)))
def ObsG (C : Cx) (ops : Array Oper) (Q : Exit → Act → World → Prop) (S : List Sp) (HR : Nat → List Value → Heap → Prop) (hd : List (List Nat)) (W : Env) (Hc : Heap) : List Nat → Prop
  | [] => True
  | i :: l => (cond (Yr S i) (ObE C ops Q S HR hd W Hc i) (ObQ C ops Q S W Hc i)) ∧ ObsG C ops Q S HR hd W Hc l
theorem ObsG.get {S : List Sp} {HR : Nat → List Value → Heap → Prop} {hd : List (List Nat)} {W : Env} {Hc : Heap} : ∀ {l : List Nat}, ObsG C ops Q S HR hd W Hc l → ∀ i, i ∈ l → (cond (Yr S i) (ObE C ops Q S HR hd W Hc i) (ObQ C ops Q S W Hc i))
 | [], _, i, h => by cases h
 | j :: l, ⟨h1, h2⟩, i, h => by
  rcases List.mem_cons.1 h with rfl | h
  · exact h1
  · exact ObsG.get h2 i h
theorem Z2f {vs : Nat → Value} {t : Nat} {v : Value} : ∀ {l : List Nat}, (t, v) ∈ Wl ops vs l → ∃ j, j ∈ l ∧ Yj ops j = some t ∧ v = vs j
 | [], h => by simp [Wl] at h
 | j :: l, h => by
  simp only [Wl] at h
  cases hs : Yj ops j with
  | none => rw [hs] at h; obtain ⟨q, h1, h2⟩ := Z2f h; exact ⟨q, .tail _ h1, h2⟩
  | some d =>
   rw [hs] at h
   rcases List.mem_cons.1 h with h | h
   · injection h with h1 h2; subst h1; subst h2; exact ⟨j, .head _, hs, rfl⟩
   · obtain ⟨q, h1, h2⟩ := Z2f h; exact ⟨q, .tail _ h1, h2⟩
theorem mem_slotsG {d : Nat} : ∀ {l : List Nat}, d ∈ Vz ops l ↔ ∃ j, j ∈ l ∧ Yj ops j = some d
 | [] => by simp [Vz]
 | j :: l => by
  simp only [Vz]
  cases hs : Yj ops j with
  | none =>
   rw [mem_slotsG (l := l)]
   constructor
   · rintro ⟨q, h1, h2⟩; exact ⟨q, .tail _ h1, h2⟩
   ·
    rintro ⟨q, h1, h2⟩
    rcases List.mem_cons.1 h1 with e | e
    · subst e; rw [hs] at h2; cases h2
    · exact ⟨q, e, h2⟩
  | some u =>
   simp only [List.mem_cons, mem_slotsG (l := l)]
   constructor
   ·
    rintro (h | ⟨q, h1, h2⟩)
    · subst h; exact ⟨j, .inl rfl, hs⟩
    · exact ⟨q, .inr h1, h2⟩
   ·
    rintro ⟨q, h1 | h1, h2⟩
    · subst h1; rw [hs] at h2; injection h2 with h2; exact .inl h2.symm
    · exact .inr ⟨q, h1, h2⟩
theorem Z57 : ∀ {l : List Nat}, (Vz ops l).Nodup → ∀ i j d, i ∈ l → j ∈ l → Yj ops i = some d → Yj ops j = some d → i = j
 | [], _, i, j, d, hi, _, _, _ => by cases hi
 | q :: l, hn, i, j, d, hi, hj, h1, h2 => by
  simp only [Vz] at hn
  cases hs : Yj ops q with
  | none =>
   rw [hs] at hn
   have hi' : i ∈ l := by rcases List.mem_cons.1 hi with e | e; (subst e; rw [hs] at h1; cases h1); exact e
   have hj' : j ∈ l := by rcases List.mem_cons.1 hj with e | e; (subst e; rw [hs] at h2; cases h2); exact e
   exact Z57 hn i j d hi' hj' h1 h2
  | some u =>
   rw [hs] at hn
   simp only [List.nodup_cons] at hn
   rcases List.mem_cons.1 hi with e | hi' <;> rcases List.mem_cons.1 hj with e' | hj'
   · rw [e, e']
   · subst e; rw [hs] at h1; injection h1 with h1; subst h1; exact absurd (mem_slotsG.2 ⟨j, hj', h2⟩) hn.1
   · subst e'; rw [hs] at h2; injection h2 with h2; subst h2; exact absurd (mem_slotsG.2 ⟨i, hi', h1⟩) hn.1
   · exact Z57 hn.2 i j d hi' hj' h1 h2
theorem Z5u {S : List Sp} {vs : Nat → Value} {es : Nat → Heap} : ∀ {l : List Nat}, (∀ j, j ∈ l → Kf S j ((Yo S j).map vs) (vs j) (es j)) → Jn S vs es l
 | [], _ => trivial
 | j :: l, h => ⟨h j (.head _), Z5u fun q hq => h q (.tail _ hq)⟩
def Yl (es : Nat → Heap) (done : Nat → Bool) (l : List Nat) : Heap := l.flatMap fun j => if done j then es j else []
theorem Z9u : ∀ (D l : List Nat), D.Nodup → (∀ j, j ∈ D → j ∈ l) → ∃ r, List.Perm l (D ++ r)
 | [], l, _, _ => ⟨l, List.Perm.refl _⟩
 | j :: D, l, hn, hs => by
  simp only [List.nodup_cons] at hn
  have hp := List.perm_cons_erase (hs j (.head _))
  obtain ⟨r, hr⟩ := Z9u D (l.erase j) hn.2 (fun q hq => by
   have hql := hs q (.tail _ hq)
   have hne : q ≠ j := by rintro rfl; exact hn.1 hq
   exact (List.mem_erase_of_ne hne).2 hql)
  exact ⟨r, hp.trans (List.Perm.cons j hr)⟩
theorem Z8t {es : Nat → Heap} {done : Nat → Bool} : ∀ {D : List Nat}, (∀ j, j ∈ D → done j = true) → Yl es done D = Xo es D
 | [], _ => rfl
 | j :: D, h => by
  have ih := Z8t (es := es) (D := D) (fun q hq => h q (.tail _ hq))
  unfold Yl at ih ⊢
  rw [List.flatMap_cons, Xo, if_pos (h j (.head _)), ih]
theorem Z6q {es : Nat → Heap} {done : Nat → Bool} {i : Nat} (e' : Heap) (hdi : done i = false) : ∀ {l : List Nat}, l.Nodup → i ∈ l →
    List.Perm (Yl (fun j => if j = i then e' else es j) (fun q => if q = i then true else done q) l) (e' ++ Yl es done l)
  | [], _, h => by cases h
  | j :: l, hn, hm => by
    simp only [List.nodup_cons] at hn
    have hcongr : ∀ l : List Nat, i ∉ l → Yl (fun j => if j = i then e' else es j) (fun q => if q = i then true else done q) l = Yl es done l := by
      intro l hl
      unfold Yl
      induction l with
      | nil => rfl
      | cons q l ih =>
        have hq : q ≠ i := by rintro rfl; exact hl (.head _)
        rw [List.flatMap_cons, List.flatMap_cons, ih (fun h => hl (.tail _ h))]
        simp [hq]
    by_cases hji : j = i
    · subst hji
      have h1 : Yl (fun q => if q = j then e' else es q) (fun q => if q = j then true else done q) (j :: l) = e' ++ Yl es done l := by
        have := hcongr l hn.1
        unfold Yl at this ⊢
        rw [List.flatMap_cons, this]; simp
      have h2 : Yl es done (j :: l) = Yl es done l := by
        unfold Yl; rw [List.flatMap_cons, hdi]; simp
      rw [h1, h2]
    · have hm' : i ∈ l := by rcases List.mem_cons.1 hm with e | e; (exact absurd e.symm hji); exact e
      have ih := Z6q (es := es) e' hdi hn.2 hm'
      have h1 : Yl (fun q => if q = i then e' else es q) (fun q => if q = i then true else done q) (j :: l) = (if done j then es j else []) ++ Yl (fun q => if q = i then e' else es q) (fun q => if q = i then true else done q) l := by
        unfold Yl; rw [List.flatMap_cons]; simp [hji]
      have h2 : Yl es done (j :: l) = (if done j then es j else []) ++ Yl es done l := by
        unfold Yl; rw [List.flatMap_cons]
      rw [h1, h2]
      refine (List.Perm.append_left _ ih).trans ?_
      rw [← List.append_assoc, ← List.append_assoc]
      exact List.Perm.append_right _ List.perm_append_comm
theorem done_eat {es : Nat → Heap} {live live' : Nat → Bool} {i : Nat} (e' : Heap) {D ea : List Nat} {l : List Nat} (hl : l.Nodup) (hil : i ∈ l) (hiD : i ∉ D) (hD : D.Nodup) (hDl : ∀ j, j ∈ D → j ∈ l ∧ live j = true)
    (hli : live i = false) (hli' : live' i = true) (h1 : ∀ j, j ≠ i → live' j = (live j && !ea.any (Nat.beq j))) (hea : ∀ j, j ∈ ea → j ∈ D) :
    ∃ Hx, List.Perm (Yl es live l) (Xo es D ++ Hx) ∧ List.Perm (Yl (fun j => if j = i then e' else es j) live' l) (e' ++ (Xo es (D.filter fun j => !ea.any (Nat.beq j)) ++ Hx)) := by
  obtain ⟨r, hr⟩ := Z9u D l hD (fun j hj => (hDl j hj).1)
  have hnd : (D ++ r).Nodup := (List.Perm.nodup_iff hr).1 hl
  have hdis := (List.nodup_append.1 hnd).2.2
  have hrn := (List.nodup_append.1 hnd).2.1
  have hir : i ∈ r := by
    rcases List.mem_append.1 ((List.Perm.mem_iff hr).1 hil) with h | h
    · exact absurd h hiD
    · exact h
  refine ⟨Yl es live r, ?_, ?_⟩
  · have h2 : List.Perm (Yl es live l) (Yl es live (D ++ r)) := hr.flatMap_right _
    rw [show Yl es live (D ++ r) = Yl es live D ++ Yl es live r by simp [Yl], Z8t (fun j hj => (hDl j hj).2)] at h2
    exact h2
  · have h2 : List.Perm (Yl (fun j => if j = i then e' else es j) live' l) (Yl (fun j => if j = i then e' else es j) live' (D ++ r)) := hr.flatMap_right _
    rw [show Yl (fun j => if j = i then e' else es j) live' (D ++ r) = Yl (fun j => if j = i then e' else es j) live' D ++ Yl (fun j => if j = i then e' else es j) live' r by simp [Yl]] at h2
    have hDe : ∀ D : List Nat, i ∉ D → (∀ j, j ∈ D → live j = true) → Yl (fun j => if j = i then e' else es j) live' D = Xo es (D.filter fun j => !ea.any (Nat.beq j)) := by
      intro D
      induction D with
      | nil => intro _ _; rfl
      | cons j D ih =>
        intro hi hj
        have hji : j ≠ i := by rintro rfl; exact hi (.head _)
        have ih := ih (fun h => hi (.tail _ h)) (fun q hq => hj q (.tail _ hq))
        unfold Yl at ih ⊢
        rw [List.flatMap_cons, ih, h1 j hji, hj j (.head _), Bool.true_and, List.filter_cons]
        simp only [if_neg hji]
        cases (!ea.any (Nat.beq j)) <;> simp [Xo]
    rw [hDe D hiD (fun j hj => (hDl j hj).2)] at h2
    have hre : Yl (fun j => if j = i then e' else es j) live' r = Yl (fun j => if j = i then e' else es j) (fun q => if q = i then true else live q) r := by
      have key : ∀ r : List Nat, (∀ j, j ∈ r → j ∉ ea) → Yl (fun j => if j = i then e' else es j) live' r = Yl (fun j => if j = i then e' else es j) (fun q => if q = i then true else live q) r := by
        intro r
        induction r with
        | nil => intro _; rfl
        | cons j r ih =>
          intro hj
          have ih := ih fun q hq => hj q (.tail _ hq)
          unfold Yl at ih ⊢
          rw [List.flatMap_cons, List.flatMap_cons, ih]
          congr 1
          by_cases e : j = i
          · subst e; simp [hli']
          · have : ea.any (Nat.beq j) = false := by
              rw [Bool.eq_false_iff]
              intro h
              exact hj j (.head _) (any_beq.1 h)
            simp [e, h1 j e, this]
      exact key r fun j hj h => hdis j (hea j h) j hj rfl
    rw [hre] at h2
    have h3 := Z6q (es := es) (done := live) e' hli hrn hir
    refine h2.trans ((List.Perm.append_left _ h3).trans ?_)
    rw [← List.append_assoc, ← List.append_assoc]
    exact List.Perm.append_right _ List.perm_append_comm
theorem wpOp_Q {ρ : Option Nat} {P : Program} {i : Nat} {K : Act → World → Prop} {a : Act} {w : World}
    (h : wpOpsIn (FW ρ) 0 P ops (fun e a w => match e with | .normal => K a w | e => Q e a w) [i] a w) : wpOpIn (FW ρ) 0 P ops Q i K a w := by
  rw [wpOpsIn_cons] at h
  unfold wpOpIn at h ⊢
  cases ho : ops[i]? with
  | none => rw [ho] at h; exact h
  | some o =>
    rw [ho] at h
    simp only at h ⊢
    split
    · rename_i hwt
      simp only [hwt, if_true] at h
      refine ⟨h.1, ?_⟩
      have h2 := h.2
      generalize (o.semAt (FW ρ).round a.eval).run P w = r at h2 ⊢
      cases r with
      | ok x w' => cases x <;> exact h2
      | halt x w' => cases x <;> exact h2
    · rename_i hwt
      simp only [hwt, if_false, Bool.false_eq_true] at h
      exact h
def rdH : List (Nat × Nat × Heap) → Nat → Heap
  | [], _ => []
  | (j, _, R) :: l, i => cond (Nat.beq j i) R (rdH l i)
def rdK : List (Nat × Nat × Heap) → Nat → Option Nat
  | [], _ => none
  | (j, k, _) :: l, i => cond (Nat.beq j i) (some k) (rdK l i)
def RdOk (HR : Nat → List Value → Heap → Prop) : List (Nat × Nat × Heap) → Prop
  | [] => True
  | (_, k, R) :: l => (∀ r, Nat.ble r k = true → ∀ vl hb, HR r vl hb → ∃ rest, List.Perm hb (R ++ rest)) ∧ RdOk HR l
def goodR (ops : Array Oper) (S : List Sp) (rd : List (Nat × Nat × Heap)) : Bool :=
  rd.all fun p => (List.range S.length).any fun q => Yr S q && Nat.beq (Kt S q) p.2.1 && Vk ops ops.size q p.1
theorem RdOk.get {HR : Nat → List Value → Heap → Prop} : ∀ {rd : List (Nat × Nat × Heap)}, RdOk HR rd → ∀ i r vl hb, (∀ k, rdK rd i = some k → r ≤ k) → HR r vl hb → ∃ rest, List.Perm hb (rdH rd i ++ rest)
 | [], _, i, r, vl, hb, _, _ => ⟨hb, List.Perm.refl _⟩
 | (j, k, R) :: l, ⟨h1, h2⟩, i, r, vl, hb, hk, hh => by
  simp only [rdH]
  cases hb' : Nat.beq j i with
  | true =>
   exact h1 r (Nat.ble_eq_true_of_le (hk k (by simp only [rdK, hb', cond_true]))) vl hb hh
  | false => exact RdOk.get h2 i r vl hb (fun k' h => hk k' (by simp only [rdK, hb', cond_false]; exact h)) hh
theorem goodR.get {ops : Array Oper} {S : List Sp} : ∀ {rd : List (Nat × Nat × Heap)}, goodR ops S rd = true → ∀ i k, rdK rd i = some k → ∃ q, q < S.length ∧ Yr S q = true ∧ Kt S q = k ∧ Vk ops ops.size q i = true
 | [], _, i, k, h => by cases h
 | (j, k', R) :: l, hg, i, k, h => by
  simp only [goodR, List.all_cons, Bool.and_eq_true] at hg
  simp only [rdK] at h
  cases hb' : Nat.beq j i with
  | true =>
   rw [hb'] at h
   injection h with h
   subst h
   have := Nat.eq_of_beq_eq_true hb'
   subst this
   obtain ⟨q, hq, h2⟩ := List.any_eq_true.1 hg.1
   simp only [Bool.and_eq_true] at h2
   exact ⟨q, List.mem_range.1 hq, h2.1.1, Nat.eq_of_beq_eq_true h2.1.2, h2.2⟩
  | false => rw [hb'] at h; exact goodR.get hg.2 i k h
def ObE2 (C : Cx) (ops : Array Oper) (Q : Exit → Act → World → Prop) (S : List Sp) (HR : Nat → List Value → Heap → Prop) (hd : List (List Nat)) (W : Env) (Hc : Heap) (i : Nat) : Prop :=
  ∀ (vs : Nat → Value) (es : Nat → Heap) (Es : Env) (Hx hb : Heap), Jn S vs es (Yo S i) → HR (Kt S i) ((hd.getD (Kt S i) []).map vs) hb →
    TO C ops (fun e a w => match e with
      | .normal => ∃ v hb' e', Kf S i ((Yo S i).map vs) v e' ∧ HR (Kt S i + 1) ((hd.getD (Kt S i + 1) []).map (fun j => cond (Nat.beq j i) v (vs j))) hb' ∧
          Fits C.n C.D (Jw (Yj ops i) v (Wl ops vs (Yo S i) ++ (W ++ Es))) a ∧ Inv C.w0 C.M w (hb' ++ (Hc ++ (e' ++ (Xo es (Yo S i) ++ Hx))))
      | e => Q e a w) [i] (Wl ops vs (Yo S i) ++ (W ++ Es)) (hb ++ (Hc ++ (Xo es (Yo S i) ++ Hx)))
def ObsG3 (C : Cx) (ops : Array Oper) (Q : Exit → Act → World → Prop) (S : List Sp) (HR : Nat → List Value → Heap → Prop) (hd : List (List Nat)) (rd : List (Nat × Nat × Heap)) (W : Env) (Hc : Heap) : List Nat → Prop
  | [] => True
  | i :: l => (cond (Yr S i) (ObE2 C ops Q S HR hd W Hc i) (ObQ C ops Q S W (rdH rd i ++ Hc) i)) ∧ ObsG3 C ops Q S HR hd rd W Hc l
theorem ObsG3.get {S : List Sp} {HR : Nat → List Value → Heap → Prop} {hd : List (List Nat)} {rd : List (Nat × Nat × Heap)} {W : Env} {Hc : Heap} : ∀ {l : List Nat}, ObsG3 C ops Q S HR hd rd W Hc l → ∀ i, i ∈ l → (cond (Yr S i) (ObE2 C ops Q S HR hd W Hc i) (ObQ C ops Q S W (rdH rd i ++ Hc) i))
 | [], _, i, h => by cases h
 | j :: l, ⟨h1, h2⟩, i, h => by
  rcases List.mem_cons.1 h with rfl | h
  · exact h1
  · exact ObsG3.get h2 i h
theorem Z8a {id : Nat} (S : List Sp) (HR : Nat → List Value → Heap → Prop) (hd : List (List Nat)) (rd : List (Nat × Nat × Heap)) (hb0 Hc : Heap)
    (hm : C.P.follows .mixedOrders = true) (hb : Gd ops = true) (ht : Lr ops S.length = true) (hgood : Rl ops S hd = true) (hms : Nat.ble S.length ops.size = true)
    (hn : Na (Vz ops (List.range S.length)) = true) (hgr : goodR ops S rd = true) (hro : RdOk HR rd) (h0 : HR 0 [] hb0) (hH : Pick (hb0 ++ Hc) H)
    (obs : ObsG3 C ops Q S HR hd rd (wo (Vz ops (List.range S.length)) E) Hc (List.range S.length))
    (k : ∀ (vs : Nat → Value) (es : Nat → Heap) (hb : Heap), Jn S vs es (List.range S.length) → HR ((List.range S.length).filter (Yr S)).length ((hd.getD ((List.range S.length).filter (Yr S)).length []).map vs) hb →
      TO C ops Q (List.range' S.length (ops.size - S.length)) (Wl ops vs (List.range S.length) ++ wo (Vz ops (List.range S.length)) E) (hb ++ (Hc ++ Xo es ((List.range S.length).filter fun j => !Gi S j)))) :
    T C (.region id ops true) Q E H := by
  intro a w hf hi
  have hms' := Nat.le_of_ble_eq_true hms
  have hnd := Z4m hn
  simp only [Rl, Bool.and_eq_true] at hgood
  obtain ⟨hg, hd0⟩ := hgood
  have hg' : ∀ i, i < S.length → _ := fun i hi => List.all_eq_true.1 hg i (List.mem_range.2 hi)
  have hd0' : hd.getD 0 [] = [] := by simpa using hd0
  let W := wo (Vz ops (List.range S.length)) E
  have hW : ∀ t v, find W t = some v → find E t = some v ∧ ∀ j, j < S.length → Yj ops j ≠ some t := fun t v h => by
    obtain ⟨h1, h2⟩ := Z5e E _ t v h
    exact ⟨h2, fun j hj hs => h1 (mem_slotsG.2 ⟨j, List.mem_range.2 hj, hs⟩)⟩
  let rk : (Nat → Bool) → Nat := fun done => ((List.range S.length).filter (fun i => Yr S i && done i)).length
  refine Z84 (m := S.length) (Jp := fun done a w => ∃ (vs : Nat → Value) (es : Nat → Heap) (hb : Heap) (Es : Env),
      Fits C.n C.D Es a ∧ (∀ j d, j < S.length → done j = true → Yj ops j = some d → find Es d = some (vs j)) ∧ (∀ t v, find W t = some v → find Es t = some v) ∧
      (∀ j, j < S.length → done j = true → Kf S j ((Yo S j).map vs) (vs j) (es j)) ∧ (∀ j, j ∈ hd.getD (rk done) [] → j < S.length ∧ done j = true) ∧
      HR (rk done) ((hd.getD (rk done) []).map vs) hb ∧ Inv C.w0 C.M w (hb ++ (Hc ++ Yl es (Vx S done) (List.range S.length))))
    hm hb ht hms' ?_ ?_ ?_
  · rintro done i o a w hil ho hdi hcl hafter _ ⟨vs, es, hb, Es, hfit, hfacts, hbase, hrels, hhd, hHR, hinv⟩
    have hgi := hg' i hil
    simp only [Bool.and_eq_true] at hgi
    obtain ⟨⟨⟨⟨hdeps, hdnd⟩, heat⟩, heate⟩, heffs⟩ := hgi
    have hdone : ∀ j, Vk ops ops.size i j = true → done j = true := fun j hj => Nw hcl _ i j hj (fun o' ho' => by rw [ho] at ho'; injection ho' with ho'; subst ho'; exact hafter)
    have hdd : ∀ j, j ∈ Yo S i → j < S.length ∧ done j = true := fun j hj => by
      have := List.all_eq_true.1 hdeps j hj
      simp only [Bool.and_eq_true] at this
      exact ⟨by simpa using this.1, hdone j this.2⟩
    have hreld : Jn S vs es (Yo S i) := Z5u fun j hj => hrels j (hdd j hj).1 (hdd j hj).2
    have heat' : ∀ q, q < S.length → ∀ j, j ∈ Ji S q → j < q ∧ j ∈ Yo S q ∧ ∀ p, p < S.length → p ≠ q → j ∉ Ji S p ∧ (j ∈ Yo S p → Vk ops ops.size q p = true) := by
      intro q hq j hj
      have h1 := hg' q hq
      simp only [Bool.and_eq_true] at h1
      have h2 := List.all_eq_true.1 h1.1.1.2 j hj
      simp only [Bool.and_eq_true] at h2
      refine ⟨by simpa using h2.1.1, any_beq.1 h2.1.2, fun p hp hpq => ?_⟩
      have h3 := List.all_eq_true.1 h2.2 p (List.mem_range.2 hp)
      simp only [Bool.or_eq_true, Bool.and_eq_true, Bool.not_eq_true'] at h3
      rcases h3 with h3 | ⟨h3, h4⟩
      · exact absurd (Nat.eq_of_beq_eq_true h3) hpq
      · refine ⟨fun hm => (by rw [any_beq.2 hm] at h3; cases h3), fun hm => ?_⟩
        rcases h4 with h4 | h4
        · rw [any_beq.2 hm] at h4; cases h4
        · exact h4
    have hcl' : ∀ q, q < S.length → done q = true → ∀ p, Vk ops ops.size q p = true → done p = true := fun q hq hdq p hqp =>
      Nw hcl _ q p hqp (fun o' ho' => hcl q o' ho' hdq)
    have hlive : ∀ j, j ∈ Yo S i → Vx S done j = true := by
      intro j hj
      unfold Vx
      rw [(hdd j hj).2, Bool.true_and, Bool.not_eq_true', Bool.eq_false_iff]
      intro he
      obtain ⟨q, hq, h2⟩ := List.any_eq_true.1 he
      simp only [Bool.and_eq_true] at h2
      have hqS := List.mem_range.1 hq
      have hqi : q ≠ i := by rintro rfl; rw [hdi] at h2; cases h2.1
      have h3 := ((heat' q hqS j (any_beq.1 h2.2)).2.2 i hil (fun e => hqi e.symm)).2 hj
      have := hcl' q hqS h2.1 i h3
      rw [hdi] at this; cases this
    have hiD : i ∉ Yo S i := fun hm => by
      have := (hdd i hm).2
      rw [hdi] at this; cases this
    have hstepL : ∀ j, j ≠ i → Vx S (fun q => if q = i then true else done q) j = (Vx S done j && !(Ji S i).any (Nat.beq j)) := by
      intro j hji
      unfold Vx
      simp only [if_neg hji]
      have : Rg S (fun q => if q = i then true else done q) j = (Rg S done j || (Ji S i).any (Nat.beq j)) := by
        rw [Bool.eq_iff_iff]
        simp only [Rg, List.any_eq_true, Bool.or_eq_true, Bool.and_eq_true]
        constructor
        · rintro ⟨q, hq, h1, h2⟩
          by_cases e : q = i
          · subst e; exact .inr h2
          · rw [if_neg e] at h1; exact .inl ⟨q, hq, h1, h2⟩
        · rintro (⟨q, hq, h1, h2⟩ | h2)
          · exact ⟨q, hq, by rw [h1]; simp, h2⟩
          · exact ⟨i, List.mem_range.2 hil, by simp, h2⟩
      rw [this]
      cases done j <;> cases Rg S done j <;> cases (Ji S i).any (Nat.beq j) <;> rfl
    have hlivei : Vx S (fun q => if q = i then true else done q) i = true := by
      unfold Vx
      simp only [if_true]
      rw [Bool.true_and, Bool.not_eq_true', Bool.eq_false_iff]
      intro he
      obtain ⟨q, hq, h2⟩ := List.any_eq_true.1 he
      simp only [Bool.and_eq_true] at h2
      have hqS := List.mem_range.1 hq
      obtain ⟨h3, h4, h5⟩ := heat' q hqS i (any_beq.1 h2.2)
      by_cases e : q = i
      · subst e; omega
      · have hdq : done q = true := by have := h2.1; rwa [if_neg e] at this
        have h6 := hg' q hqS
        simp only [Bool.and_eq_true] at h6
        have h7 := List.all_eq_true.1 h6.1.1.1.1 i h4
        simp only [Bool.and_eq_true] at h7
        have := hcl' q hqS hdq i h7.2
        rw [hdi] at this; cases this
    have hpermE : ∀ e' : Heap, ∃ Hx, List.Perm (Yl es (Vx S done) (List.range S.length)) (Xo es (Yo S i) ++ Hx) ∧
        List.Perm (Yl (fun j => if j = i then e' else es j) (Vx S (fun q => if q = i then true else done q)) (List.range S.length)) (e' ++ (Xo es (Ly S i) ++ Hx)) := fun e' =>
      done_eat e' List.nodup_range (List.mem_range.2 hil) hiD (Z4m hdnd) (fun j hj => ⟨List.mem_range.2 (hdd j hj).1, hlive j hj⟩) (by unfold Vx; rw [hdi]; rfl) hlivei hstepL (fun j hj => (heat' i hil j hj).2.1)
    obtain ⟨Hx, hHx, hHx'⟩ : ∃ Hx, List.Perm (Yl es (Vx S done) (List.range S.length)) (Xo es (Yo S i) ++ Hx) ∧
        ∀ e' : Heap, List.Perm (Yl (fun j => if j = i then e' else es j) (Vx S (fun q => if q = i then true else done q)) (List.range S.length)) (e' ++ (Xo es (Ly S i) ++ Hx)) := by
      obtain ⟨Hx, h1, _⟩ := hpermE []
      refine ⟨Hx, h1, fun e' => ?_⟩
      obtain ⟨Hy, h2, h3⟩ := hpermE e'
      exact h3.trans (List.Perm.append_left _ (List.Perm.append_left _ ((List.perm_append_left_iff _).1 (h2.symm.trans h1))))
    have hsub : ∀ t v, find (Wl ops vs (Yo S i) ++ (W ++ Es)) t = some v → find Es t = some v := by
      intro t v h
      rw [Z14, Z14] at h
      cases h1 : find (Wl ops vs (Yo S i)) t with
      | some u =>
        rw [h1] at h; simp at h; subst h
        obtain ⟨j, hj, hs, rfl⟩ := Z2f (Z5a h1)
        exact hfacts j t (hdd j hj).1 (hdd j hj).2 hs
      | none =>
        rw [h1] at h
        simp only [Option.none_or] at h
        cases h2 : find W t with
        | some u => rw [h2] at h; simp at h; subst h; exact hbase t u h2
        | none => rw [h2] at h; simpa using h
    have hsub2 : ∀ t v, find Es t = some v → find (Wl ops vs (Yo S i) ++ (W ++ Es)) t = some v := by
      intro t v h
      cases h1 : find (Wl ops vs (Yo S i) ++ (W ++ Es)) t with
      | some u => rw [← hsub t u h1, h]
      | none =>
        rw [Z14, Z14, h] at h1
        cases h2 : find (Wl ops vs (Yo S i)) t <;> cases h3 : find W t <;> simp [h2, h3] at h1
    have hslot : Yj ops i = o.dst := by simp [Yj, ho]
    have hfin : ∀ (v : Value) (e' hb' : Heap) (a' : Act) (w' : World), Kf S i ((Yo S i).map vs) v e' → (∀ j, j ∈ hd.getD (rk (fun q => if q = i then true else done q)) [] → j < S.length ∧ (if j = i then true else done j) = true) →
        HR (rk (fun q => if q = i then true else done q)) ((hd.getD (rk (fun q => if q = i then true else done q)) []).map (fun j => if j = i then v else vs j)) hb' →
        Fits C.n C.D (Jw (Yj ops i) v (Wl ops vs (Yo S i) ++ (W ++ Es))) a' → Inv C.w0 C.M w' (hb' ++ (Hc ++ (e' ++ (Xo es (Ly S i) ++ Hx)))) →
        ∃ (vs : Nat → Value) (es : Nat → Heap) (hb : Heap) (Es : Env), Fits C.n C.D Es a' ∧ (∀ j d, j < S.length → (if j = i then true else done j) = true → Yj ops j = some d → find Es d = some (vs j)) ∧ (∀ t v, find W t = some v → find Es t = some v) ∧
          (∀ j, j < S.length → (if j = i then true else done j) = true → Kf S j ((Yo S j).map vs) (vs j) (es j)) ∧ (∀ j, j ∈ hd.getD (rk (fun q => if q = i then true else done q)) [] → j < S.length ∧ (if j = i then true else done j) = true) ∧
          HR (rk (fun q => if q = i then true else done q)) ((hd.getD (rk (fun q => if q = i then true else done q)) []).map vs) hb ∧ Inv C.w0 C.M w' (hb ++ (Hc ++ Yl es (Vx S (fun q => if q = i then true else done q)) (List.range S.length))) := by
      intro v e' hb' a' w' hrel hhd' hHR' hfit' hinv'
      refine ⟨fun j => if j = i then v else vs j, fun j => if j = i then e' else es j, hb', Jw (Yj ops i) v (Wl ops vs (Yo S i) ++ (W ++ Es)), hfit', fun j d hj hdj hs => ?_, fun t u h => ?_, fun j hj hdj => ?_, hhd', hHR', ?_⟩
      · show find _ d = some (if j = i then v else vs j)
        by_cases e : j = i
        · subst e; rw [hs, if_pos rfl]; simp [Jw, Uu]
        · rw [if_neg e]
          have hdj' : done j = true := by simpa [e] using hdj
          have h1 := hsub2 _ _ (hfacts j d hj hdj' hs)
          cases hsi : Yj ops i with
          | none => exact h1
          | some di =>
            simp only [Jw, Uu]
            rw [if_neg]
            · exact h1
            · rintro rfl
              exact e (Z57 hnd j i di (List.mem_range.2 hj) (List.mem_range.2 hil) hs hsi)
      · have h1 := hsub2 _ _ (hbase t u h)
        cases hsi : Yj ops i with
        | none => exact h1
        | some di =>
          simp only [Jw, Uu]
          rw [if_neg]
          · exact h1
          · rintro rfl
            exact (hW _ _ h).2 i hil hsi
      · have hmapdeps : ∀ q, q < S.length → (if q = i then true else done q) = true → (Yo S q).map (fun j => if j = i then v else vs j) = (Yo S q).map vs := by
          intro q hq hdq
          apply List.map_congr_left
          intro r hr
          have hrq := hg' q hq
          simp only [Bool.and_eq_true] at hrq
          have hrr := List.all_eq_true.1 hrq.1.1.1.1 r hr
          simp only [Bool.and_eq_true] at hrr
          have hne : r ≠ i := by
            rintro rfl
            by_cases e : q = r
            · subst e
              have := hdone q hrr.2
              rw [hdi] at this; cases this
            · have hdq' : done q = true := by simpa [e] using hdq
              have : done r = true := by
                obtain ⟨oq, hoq⟩ : ∃ oq, ops[q]? = some oq := ⟨ops[q]'(by omega), Array.getElem?_eq_getElem (by omega)⟩
                exact Nw hcl _ q r hrr.2 (fun o' ho' => hcl q o' ho' hdq')
              rw [hdi] at this; cases this
          rw [if_neg hne]
        rw [hmapdeps j hj hdj]
        by_cases e : j = i
        · subst e; simpa using hrel
        · simp only [if_neg e]
          exact hrels j hj (by simpa [e] using hdj)
      · exact hinv'.perm (List.Perm.append_left _ (List.Perm.append_left _ (hHx' e').symm))
    have hrk : Yr S i = false → rk (fun q => if q = i then true else done q) = rk done := by
      intro he
      show ((List.range S.length).filter _).length = _
      congr 1
      apply List.filter_congr
      intro j _
      by_cases e : j = i
      · subst e; simp [he]
      · simp [e]
    cases he : Yr S i with
    | false =>
      have hob := obs.get i (List.mem_range.2 hil)
      rw [he] at hob
      simp only [cond_false] at hob
      have hrkle : ∀ k, rdK rd i = some k → rk done ≤ k := by
        intro k hk
        obtain ⟨q, hq, heq, hrq, hreach⟩ := goodR.get hgr i k hk
        subst hrq
        have hdq : done q = false := by
          cases hdq : done q with
          | false => rfl
          | true => have := hcl' q hq hdq i hreach; rw [hdi] at this; cases this
        show ((List.range S.length).filter (fun i => Yr S i && done i)).length ≤ ((List.range q).filter (Yr S)).length
        have hsplit : List.range S.length = List.range q ++ List.range' q (S.length - q) := by
          rw [List.range_eq_range', List.range_eq_range']
          have := List.range'_append_1 (s := 0) (m := q) (n := S.length - q)
          rw [Nat.zero_add] at this
          rw [this]
          congr 1; omega
        have h2 : (List.range' q (S.length - q)).filter (fun j => Yr S j && done j) = [] := by
          rw [List.filter_eq_nil_iff]
          intro j hj
          have hjr := List.mem_range'_1.1 hj
          cases hej : Yr S j with
          | false => simp
          | true =>
            cases hdj : done j with
            | false => simp
            | true =>
              exfalso
              by_cases e : j = q
              · subst e; rw [hdq] at hdj; cases hdj
              · have hgj := hg' j (by omega)
                simp only [Bool.and_eq_true] at hgj
                have h3 := hgj.2
                rw [hej] at h3
                simp only [Bool.not_true, Bool.false_or, Bool.and_eq_true] at h3
                have h4 := List.all_eq_true.1 h3.1 q (List.mem_range.2 (by omega))
                rw [heq] at h4
                simp only [Bool.not_true, Bool.false_or] at h4
                have := hcl' j (by omega) hdj q h4
                rw [hdq] at this; cases this
        rw [hsplit, List.filter_append, h2, List.append_nil]
        have : ∀ l : List Nat, (l.filter (fun i => Yr S i && done i)).length ≤ (l.filter (Yr S)).length := by
          intro l
          induction l with
          | nil => simp
          | cons x l ih =>
            rw [List.filter_cons, List.filter_cons]
            cases h1 : Yr S x <;> cases h2 : done x <;> simp <;> omega
        exact this _
      obtain ⟨rest, hrest⟩ := hro.get i (rk done) _ hb hrkle hHR
      have hh := hob vs es Es (Hx ++ rest) hreld a w (hfit.weak hsub) (hinv.perm (by
        refine (List.Perm.append hrest (List.Perm.append_left Hc hHx)).trans ?_
        rw [List.append_assoc, List.append_assoc]
        refine List.Perm.append_left _ ?_
        refine List.perm_append_comm.trans ?_
        rw [List.append_assoc, List.append_assoc]))
      refine wpOpIn_mono ?_ (wpOp_Q hh)
      rintro a' w' ⟨v, e', hrel, hfit', hinv'⟩
      refine hfin v e' hb a' w' hrel ?_ ?_ hfit' (hinv'.perm ?_)
      · rw [hrk he]
        intro j hj
        obtain ⟨h1, h2⟩ := hhd j hj
        exact ⟨h1, by rw [h2]; simp⟩
      · rw [hrk he]
        have : (hd.getD (rk done) []).map (fun j => if j = i then v else vs j) = (hd.getD (rk done) []).map vs := by
          apply List.map_congr_left
          intro j hj
          rw [if_neg]
          rintro rfl
          have := (hhd j hj).2
          rw [hdi] at this; cases this
        rw [this]
        exact hHR
      · -- e' ++ ((R ++ Hc) ++ (ents ++ (Hx ++ rest)))  ~  hb ++ (Hc ++ (e' ++ (ents ++ Hx)))
        generalize Xo es (Ly S i) = A
        refine List.Perm.trans ?_ (List.Perm.append_right _ hrest.symm)
        generalize rdH rd i = R
        have e1 : e' ++ ((R ++ Hc) ++ (A ++ (Hx ++ rest))) = ((e' ++ (R ++ Hc)) ++ (A ++ Hx)) ++ rest := by simp only [List.append_assoc]
        have e2 : (R ++ rest) ++ (Hc ++ (e' ++ (A ++ Hx))) = R ++ (rest ++ (Hc ++ (e' ++ (A ++ Hx)))) := by simp only [List.append_assoc]
        rw [e1, e2]
        have p1 : List.Perm (e' ++ (R ++ Hc)) (R ++ (Hc ++ e')) := by
          refine List.perm_append_comm.trans ?_
          rw [List.append_assoc]
        refine (List.Perm.append_right rest (List.Perm.append_right (A ++ Hx) p1)).trans ?_
        have e3 : ((R ++ (Hc ++ e')) ++ (A ++ Hx)) ++ rest = R ++ ((Hc ++ (e' ++ (A ++ Hx))) ++ rest) := by simp only [List.append_assoc]
        rw [e3]
        exact List.Perm.append_left R List.perm_append_comm
    | true =>
      have hob := obs.get i (List.mem_range.2 hil)
      rw [he] at hob
      simp only [cond_true] at hob
      rw [he] at heffs
      simp only [Bool.not_true, Bool.false_or, Bool.and_eq_true] at heffs
      obtain ⟨hchain, hnext⟩ := heffs
      have hrki : rk done = Kt S i := by
        show ((List.range S.length).filter _).length = ((List.range i).filter (Yr S)).length
        have hsplit : List.range S.length = List.range i ++ List.range' i (S.length - i) := by
          rw [List.range_eq_range', List.range_eq_range']
          have := List.range'_append_1 (s := 0) (m := i) (n := S.length - i)
          rw [Nat.zero_add] at this
          rw [this]
          congr 1; omega
        rw [hsplit, List.filter_append]
        have h1 : (List.range i).filter (fun j => Yr S j && done j) = (List.range i).filter (Yr S) := by
          apply List.filter_congr
          intro j hj
          have := List.all_eq_true.1 hchain j hj
          simp only [Bool.or_eq_true, Bool.not_eq_true'] at this
          rcases this with h | h
          · simp [h]
          · simp [hdone j h]
        have h2 : (List.range' i (S.length - i)).filter (fun j => Yr S j && done j) = [] := by
          rw [List.filter_eq_nil_iff]
          intro j hj
          have hjr := List.mem_range'_1.1 hj
          cases hej : Yr S j with
          | false => simp
          | true =>
            cases hdj : done j with
            | false => simp
            | true =>
              exfalso
              by_cases e : j = i
              · subst e; rw [hdi] at hdj; cases hdj
              · have hgj := hg' j (by omega)
                simp only [Bool.and_eq_true] at hgj
                have h3 := hgj.2
                rw [hej] at h3
                simp only [Bool.not_true, Bool.false_or, Bool.and_eq_true] at h3
                have h4 := List.all_eq_true.1 h3.1 i (List.mem_range.2 (by omega))
                rw [he] at h4
                simp only [Bool.not_true, Bool.false_or] at h4
                have : done i = true := Nw hcl _ j i h4 (fun o' ho' => hcl j o' ho' hdj)
                rw [hdi] at this; cases this
        rw [h1, h2, List.append_nil]
      have hrki' : rk (fun q => if q = i then true else done q) = Kt S i + 1 := by
        rw [← hrki]
        show ((List.range S.length).filter _).length = ((List.range S.length).filter _).length + 1
        have : ∀ l : List Nat, l.Nodup → i ∈ l → (l.filter (fun j => Yr S j && (if j = i then true else done j))).length = (l.filter (fun j => Yr S j && done j)).length + 1 := by
          intro l
          induction l with
          | nil => intro _ h; cases h
          | cons j l ih =>
            intro hn hm
            simp only [List.nodup_cons] at hn
            by_cases e : j = i
            · subst e
              have hc : l.filter (fun q => Yr S q && (if q = j then true else done q)) = l.filter (fun q => Yr S q && done q) := by
                apply List.filter_congr
                intro q hq
                have : q ≠ j := by rintro rfl; exact hn.1 hq
                simp [this]
              rw [List.filter_cons_of_pos (by simp [he]), List.filter_cons_of_neg (by simp [hdi]), hc, List.length_cons]
            · have hm' : i ∈ l := by rcases List.mem_cons.1 hm with h | h; (exact absurd h.symm e); exact h
              have := ih hn.2 hm'
              simp only [List.filter_cons, e, if_false]
              split
              · simp only [List.length_cons]; omega
              · exact this
        exact this _ List.nodup_range (List.mem_range.2 hil)
      rw [hrki] at hHR
      have hh := hob vs es Es Hx hb hreld hHR a w (hfit.weak hsub) (hinv.perm (List.Perm.append_left _ (List.Perm.append_left _ hHx)))
      refine wpOpIn_mono ?_ (wpOp_Q hh)
      rintro a' w' ⟨v, hb', e', hrel, hHR', hfit', hinv'⟩
      have hrest : Ly S i = Yo S i := by
        have h0 : Ji S i = [] := by
          rw [he] at heate; simpa using heate
        unfold Ly; rw [h0]; simp
      refine hfin v e' hb' a' w' hrel ?_ ?_ hfit' (by rw [hrest]; exact hinv')
      · rw [hrki']
        intro j hj
        have := List.all_eq_true.1 hnext j hj
        simp only [Bool.or_eq_true, Bool.and_eq_true] at this
        rcases this with h | ⟨h1, h2⟩
        · have := Nat.eq_of_beq_eq_true h; subst this; exact ⟨hil, by simp⟩
        · exact ⟨by simpa using h1, by rw [hdone j h2]; simp⟩
      · rw [hrki']
        have : (fun j => _root_.cond (Nat.beq j i) v (vs j)) = (fun j => if j = i then v else vs j) := by
          funext j
          by_cases e : j = i
          · subst e
            have : Nat.beq j j = true := by simp
            rw [this, if_pos rfl]; rfl
          · rw [if_neg e]
            have : Nat.beq j i = false := by
              cases hb : Nat.beq j i
              · rfl
              · exact absurd (Nat.eq_of_beq_eq_true hb) e
            rw [this]; rfl
        rw [← this]
        exact hHR'
  · rintro done a w hall ⟨vs, es, hb, Es, hfit, hfacts, hbase, hrels, hhd, hHR, hinv⟩
    have hrk : rk done = ((List.range S.length).filter (Yr S)).length := by
      show ((List.range S.length).filter _).length = _
      congr 1
      apply List.filter_congr
      intro j hj
      simp [hall j (List.mem_range.1 hj)]
    rw [hrk] at hHR
    refine k vs es hb (Z5u fun j hj => hrels j (List.mem_range.1 hj) (hall j (List.mem_range.1 hj))) hHR a w (hfit.weak fun t v h => ?_) ?_
    · rw [Z14] at h
      cases h1 : find (Wl ops vs (List.range S.length)) t with
      | some u =>
        rw [h1] at h; simp at h; subst h
        obtain ⟨j, hj, hs, rfl⟩ := Z2f (Z5a h1)
        have hj' := List.mem_range.1 hj
        exact hfacts j t hj' (hall j hj') hs
      | none => rw [h1] at h; exact hbase t v (by simpa using h)
    · have h1 : Yl es (Vx S done) (List.range S.length) = Xo es ((List.range S.length).filter fun j => !Gi S j) := by
        have key : ∀ l : List Nat, (∀ j, j ∈ l → j < S.length) → Yl es (Vx S done) l = Xo es (l.filter fun j => !Gi S j) := by
          intro l
          induction l with
          | nil => intro _; rfl
          | cons j l ih =>
            intro h
            have ih := ih fun q hq => h q (.tail _ hq)
            have hj : Vx S done j = !Gi S j := by
              unfold Vx Rg Gi
              rw [hall j (h j (.head _)), Bool.true_and]
              congr 1
              rw [Bool.eq_iff_iff]
              simp only [List.any_eq_true, Bool.and_eq_true]
              constructor
              · rintro ⟨q, hq, _, h2⟩; exact ⟨q, hq, h2⟩
              · rintro ⟨q, hq, h2⟩; exact ⟨q, hq, hall q (List.mem_range.1 hq), h2⟩
            unfold Yl at ih ⊢
            rw [List.flatMap_cons, ih, hj, List.filter_cons]
            cases (!Gi S j) <;> simp [Xo]
        exact key _ fun j hj => List.mem_range.1 hj
      rw [← h1]
      exact hinv
  · have hrk0 : rk (fun _ => false) = 0 := by
      show ((List.range S.length).filter _).length = 0
      simp
    refine ⟨fun _ => undef, fun _ => [], hb0, E, hf, fun j d _ h => by simp at h, fun t v h => (hW t v h).1, fun j _ h => by simp at h, ?_, ?_, ?_⟩
    · rw [hrk0, hd0']; intro j hj; cases hj
    · rw [hrk0, hd0']; exact h0
    · have : Yl (fun _ => []) (Vx S fun _ => false) (List.range S.length) = [] := by simp [Yl]
      rw [this, List.append_nil]
      exact (hi.pick hH).ofHeap rfl rfl rfl rfl
theorem Zc6 {ρ : Option Nat} {P : Program} {Q' : Exit → Act → World → Prop} {i : Nat} {K K' : Act → World → Prop} {a : Act} {w : World} (hq : ∀ e a w, e ≠ .normal → Q' e a w → Q e a w) (hk : ∀ a w, K' a w → K a w)
    (h : wpOpIn (FW ρ) 0 P ops Q' i K' a w) : wpOpIn (FW ρ) 0 P ops Q i K a w := by
  refine wpOpIn_mono hk ?_
  unfold wpOpIn at h ⊢
  cases ho : ops[i]? with
  | none => rw [ho] at h; exact h
  | some o =>
    rw [ho] at h
    simp only at h ⊢
    split
    · rename_i hwt
      simp only [hwt, if_true] at h
      refine ⟨h.1, ?_⟩
      have h2 := h.2
      generalize (o.semAt (FW ρ).round a.eval).run P w = r at h2 ⊢
      cases r with
      | ok x w' =>
        cases x with
        | enter f args => exact ⟨h2.1, CallsIn.mono h2.2 (fun e w' hh => by cases e with
          | returned v => exact hh
          | panicked c => exact hq _ _ _ (by simp) hh
          | outgrown => obtain ⟨a0, w0, h0⟩ := hh; exact ⟨a0, w0, hq _ _ _ (by simp) h0⟩)⟩
        | row _ => exact h2
        | round l f tmps assign body => exact ⟨h2.1, RoundIn.mono h2.2 (fun e w' hh => by cases e with
          | returned v => exact hh
          | panicked c => exact hq _ _ _ (by simp) hh
          | outgrown => obtain ⟨a0, w0, h0⟩ := hh; exact ⟨a0, w0, hq _ _ _ (by simp) h0⟩)⟩
        | _ => exact h2
      | halt x w' => cases x <;> first | exact h2 | exact hq _ _ _ (by simp) h2
    · rename_i hwt
      simp only [hwt, if_false, Bool.false_eq_true] at h
      exact h
theorem Ry {ρ : Option Nat} {P : Program} {Q' : Exit → Act → World → Prop} {l2 : List Nat} (hq : ∀ e a w, e ≠ .normal → Q' e a w → Q e a w) (hn : ∀ a w, Q' .normal a w → wpOpsIn (FW ρ) 0 P ops Q l2 a w) : ∀ (l1 : List Nat) (a : Act) (w : World), wpOpsIn (FW ρ) 0 P ops Q' l1 a w → wpOpsIn (FW ρ) 0 P ops Q (l1 ++ l2) a w
 | [], a, w, h => hn a w h
 | i :: l1, a, w, h => by
  rw [List.cons_append, wpOpsIn_cons]
  rw [wpOpsIn_cons] at h
  exact Zc6 hq (fun a w => Ry hq hn l1 a w) h
theorem ObE.to2 {S : List Sp} {HR : Nat → List Value → Heap → Prop} {hd : List (List Nat)} {W : Env} {Hc : Heap} {i : Nat} (h : ObE C ops Q S HR hd W Hc i) : ObE2 C ops Q S HR hd W Hc i := by
 intro vs es Es Hx hb hr hh a w hf hi
 refine Ry (l2 := []) (fun e a w hne hq => ?_) (fun a w hq => ?_) [i] a w (h vs es Es Hx hb hr hh a w hf hi)
 · cases e <;> first | exact absurd rfl hne | exact hq
 ·
  obtain ⟨v, hb', h1, h2, h3, h4⟩ := hq
  exact ⟨v, hb', [], h1, h2, h3, h4⟩
theorem Z6l {S : List Sp} {HR : Nat → List Value → Heap → Prop} {hd : List (List Nat)} {W : Env} {Hc : Heap} : ∀ {l : List Nat}, ObsG C ops Q S HR hd W Hc l → ObsG3 C ops Q S HR hd [] W Hc l
 | [], _ => trivial
 | i :: _, ⟨h1, h2⟩ => ⟨by
  cases he : Yr S i with
  | true => rw [he] at h1; exact ObE.to2 h1
  | false => rw [he] at h1; exact h1, Z6l h2⟩
theorem T.drawG {id : Nat} (S : List Sp) (HR : Nat → List Value → Heap → Prop) (hd : List (List Nat)) (hb0 Hc : Heap)
    (hm : C.P.follows .mixedOrders = true) (hb : Gd ops = true) (ht : Lr ops S.length = true) (hgood : Rl ops S hd = true) (hms : Nat.ble S.length ops.size = true)
    (hn : Na (Vz ops (List.range S.length)) = true) (h0 : HR 0 [] hb0) (hH : Pick (hb0 ++ Hc) H)
    (obs : ObsG C ops Q S HR hd (wo (Vz ops (List.range S.length)) E) Hc (List.range S.length))
    (k : ∀ (vs : Nat → Value) (es : Nat → Heap) (hb : Heap), Jn S vs es (List.range S.length) → HR ((List.range S.length).filter (Yr S)).length ((hd.getD ((List.range S.length).filter (Yr S)).length []).map vs) hb →
      TO C ops Q (List.range' S.length (ops.size - S.length)) (Wl ops vs (List.range S.length) ++ wo (Vz ops (List.range S.length)) E) (hb ++ (Hc ++ Xo es ((List.range S.length).filter fun j => !Gi S j)))) :
    T C (.region id ops true) Q E H := Z8a S HR hd [] hb0 Hc hm hb ht hgood hms hn rfl trivial h0 hH (Z6l obs) k
theorem Z5w {id : Nat} (S : List Sp) (sl : List Nat) (m : Nat) (HR : Nat → List Value → Heap → Prop) (hd : List (List Nat)) (hb0 Hc : Heap)
    (hm : C.P.follows .mixedOrders = true) (hsm : S.length = m) (hsl : Vz ops (List.range m) = sl) (hb : Gd ops = true) (ht : Lr ops m = true) (hgood : Rl ops S hd = true) (hms : Nat.ble m ops.size = true)
    (hn : Na sl = true) (h0 : HR 0 [] hb0) (hH : Pick (hb0 ++ Hc) H)
    (obs : ObsG C ops Q S HR hd (wo sl E) Hc (List.range m))
    (k : ∀ (vs : Nat → Value) (es : Nat → Heap) (hb : Heap), Jn S vs es (List.range m) → HR ((List.range m).filter (Yr S)).length ((hd.getD ((List.range m).filter (Yr S)).length []).map vs) hb →
      TO C ops Q (List.range' m (ops.size - m)) (Wl ops vs (List.range m) ++ wo sl E) (hb ++ (Hc ++ Xo es ((List.range m).filter fun j => !Gi S j)))) :
    T C (.region id ops true) Q E H := by
  subst hsm; subst hsl
  exact T.drawG S HR hd hb0 Hc hm hb ht hgood hms hn h0 hH obs k
def HRk (l : List Heap) : Nat → List Value → Heap → Prop := fun k _ hb => hb = l.getD k []
theorem Zw {l : List Nat} {D D' : Env} {W : Env} (h : D' = D) (k : TO C ops Q l (D ++ W) H) : TO C ops Q l (D' ++ W) H := by rw [h]; exact k
theorem Uz {l : List Nat} {H' : Heap} (h : H' = H) (k : TO C ops Q l E H) : TO C ops Q l E H' := by rw [h]; exact k
theorem Zy {S : List Sp} {W Es B B' : Env} {Hc Hx : Heap} {i d : Nat} {v : Value} {e' De : Heap} {vl : List Value} {H' : Heap} (hs : Yj ops i = some d) (hr : Kf S i vl v e') (hH : Pick (e' ++ (Hc ++ (De ++ Hx))) H') (hB : B = B') :
    X C (fun e a w => match e with
      | .normal => ∃ v e', Kf S i vl v e' ∧ Fits C.n C.D (Jw (Yj ops i) v (B ++ (W ++ Es))) a ∧ Inv C.w0 C.M w (e' ++ (Hc ++ (De ++ Hx)))
      | e => Q e a w) .normal ((d, v) :: (B' ++ (W ++ Es))) H' := by
  subst hB
  exact fun _ _ hf hi => ⟨v, e', hr, by rw [hs]; exact hf, hi.pick hH⟩
end
end Go.Acq
namespace Go.Acq
open Go Go.RowKit
theorem Inv.self {w0 w : World} {M M' : List Nat} {H Hm : Heap} (h : Inv w0 M w H) (hp : Pick Hm H) (hM : Hm.filterMap (·.1) = M') : Inv w M' w Hm := by
 have g := h.pick hp
 refine ⟨rfl, rfl, rfl, Nat.le_refl _, fun _ _ _ => rfl, g.own, fun b o hm => ?_, g.apart⟩
 subst hM
 first | exact Or.inr (Nn hm) | exact fun _ => Nn hm | exact Or.inl (Nn hm)
theorem Zr {p : Option Nat × Obj} {H R S Hm : Heap} (h : Take p H R) (g : List.Perm R (Hm ++ S)) : List.Perm H ((p :: Hm) ++ S) :=
 h.trans (List.Perm.cons p g)
end Go.Acq
namespace Go.Acq
open Go Go.RowKit
section control
variable {C : Cx} {Q : Exit → Act → World → Prop} {E E' : Env} {H H' : Heap} {c x y : Code}
theorem Zcw {t : Nat} {v : Value} {L E : Env} (h : find E t = some v) (h2 : AllF L E) : AllF ((t, v) :: L) E := ⟨h, h2⟩
theorem Z1r {E : Env} : AllF [] E := trivial
theorem Fits.all {n : Nat} {D : List Deferred} {L E : Env} {a : Act} (h : Fits n D E a) (hL : AllF L E) : Fits n D L a := h.weak hL.sub
theorem T.weakE (h : T C c Q E' H') (hE : AllF E' E) (hH : Pick H' H) : T C c Q E H := h.weak hE.sub hH
theorem Z2k {α : Type} (φ : α → Prop) (L : α → Env) (Hs : α → Heap) (μ : α → Nat) (s0 : α) (h0 : φ s0) (hE : AllF (L s0) E) (hH : Pick (Hs s0) H)
    (round : ∀ s, φ s → T C c (Exit.then (fun a w => ∃ s', φ s' ∧ μ s' < μ s ∧ Fits C.n C.D (L s') a ∧ Inv C.w0 C.M w (Hs s')) Q) (L s) (Hs s)) : T C (.loop c) Q E H := by
  refine T.weakE (E' := L s0) (H' := Hs s0) ?_ hE hH
  intro a w hf hi b k cs hro hb hr
  have key : ∀ j s a w, μ s = j → φ s → Fits C.n C.D (L s) a → Inv C.w0 C.M w (Hs s) →
      ∃ e a' w', Q e a' w' ∧ ArrivesIn (Machine.fenced C.P (FW C.ρ)) C.P (lone (b.atR a (.code c :: .inLoop c :: k)) cs w) b k cs e a' w' := by
    intro j
    induction j using Nat.strongRecOn with
    | _ j ih =>
      intro s a w hj hφ hfit hinv
      obtain ⟨e, a₁, w₁, hq, harr⟩ := round s hφ a w hfit hinv b (.inLoop c :: k) cs hro hb hr
      cases e with
      | normal =>
        obtain ⟨s', hφ', hlt, hfit', hinv'⟩ := hq
        obtain ⟨e₂, a₂, w₂, hq₂, harr₂⟩ := ih (μ s') (hj ▸ hlt) s' a₁ w₁ rfl hφ' hfit' hinv'
        exact ⟨e₂, a₂, w₂, hq₂, .of_steps (StepsIn.trans harr (.one (fenced_calm hb hr rfl) stepR_inLoop)) harr₂⟩
      | exit id => exact ⟨_, a₁, w₁, hq, .pass (x := .inLoop c) rfl (fun _ _ => .inl (by simp)) harr⟩
      | goto l => exact ⟨_, a₁, w₁, hq, .pass (x := .inLoop c) rfl (fun _ _ => .inl (by simp)) harr⟩
      | ret => exact ⟨_, a₁, w₁, hq, .pass (x := .inLoop c) rfl (fun _ _ => .inl (by simp)) harr⟩
      | panic ch => exact ⟨_, a₁, w₁, hq, .pass (x := .inLoop c) rfl (fun _ _ => .inl (by simp)) harr⟩
      | outgrown => exact ⟨_, a₁, w₁, hq, .pass (x := .inLoop c) rfl (fun _ _ => .inl (by simp)) harr⟩
  obtain ⟨e, a', w', hq, harr⟩ := key _ s0 a w rfl h0 hf hi
  exact ⟨e, a', w', hq, .of_steps (.one (fenced_calm hb hr rfl) stepR_loop) harr⟩
end control
structure RS {α : Type} (w : World) (M : List Nat) (f : α → List Value) (s : Nat) (base : Option Addr) (n c : Nat) (xs : List α) : Prop where
  ro : RO w f s base n xs
  far : ∀ a, base = some a → 0 < n → a.block ∉ M
  cap : n ≤ c
structure HB (w : World) (M : List Nat) (b : Nat) (cs : List Value) : Prop where
  has : Has w b cs
  far : b ∉ M
section
variable {α : Type} {w w0 : World} {M M' : List Nat} {f : α → List Value} {s n c : Nat} {base : Option Addr} {xs : List α} {H Hm R : Heap}
theorem RS.len (h : RS w M f s base n c xs) : xs.length = n := h.ro.len
theorem RS.nil (w : World) (M : List Nat) (hf : ∀ x, (f x).length = s) : RS w M f s none 0 0 ([] : List α) := ⟨Z6r w hf, (fun _ e => by cases e), Nat.le_refl _⟩
theorem RO.monoM (h : RO w0 f s base n xs) (hfar : ∀ a, base = some a → 0 < n → a.block ∉ M) (hi : Inv w0 M w H) : RO w f s base n xs :=
 ⟨h.len, h.nil, h.wide, fun o q ho hq x hx => by
  have h1 := h.cell o q ho hq x hx
  have hcl : q < (f x).length := by rw [h.wide]; exact hq
  have hn : 0 < n := by have := h.len; omega
  cases base with
  | none => have := h.nil rfl; omega
  | some a =>
   have hb : (ea (some a) (o * s + q)).block = a.block := by
    simp only [ea, Option.getD_some, Addr.add]; split <;> rfl
   rw [List.getElem?_eq_getElem hcl] at h1 ⊢
   exact hi.cell_old h1 (by rw [hb]; exact hfar a rfl hn)⟩
theorem RS.mono (h : RS w0 M f s base n c xs) (hi : Inv w0 M w H) : RS w [] f s base n c xs := ⟨h.ro.monoM h.far hi, fun _ _ _ => by simp, h.cap⟩
theorem RO.block_lt (h : RO w f s base n xs) (hs : 0 < s) (hn : 0 < n) {a : Addr} (ha : base = some a) : a.block < w.heap.size := by
 subst ha
 have h0 : 0 < xs.length := by rw [h.len]; exact hn
 have h1 := h.cell 0 0 h0 hs xs[0] (List.getElem?_eq_getElem h0)
 have hcl : 0 < (f xs[0]).length := by rw [h.wide]; exact hs
 rw [List.getElem?_eq_getElem hcl] at h1
 simp only [Nat.zero_mul, Nat.add_zero, ea, Option.getD_some, Addr.add, if_true] at h1
 unfold World.cell? at h1
 split at h1
 · rename_i he; exact (Array.getElem?_eq_some_iff.1 he).1
 · cases h1
theorem RS.monoM (h : RS w0 M f s base n c xs) (hs : 0 < s) (hi : Inv w0 M w H) (hp : List.Perm H (Hm ++ R)) (hM : Hm.filterMap (·.1) = M') : RS w M' f s base n c xs :=
 ⟨h.ro.monoM h.far hi, fun a ha hn hm => by
  have hlt := h.ro.block_lt hs hn ha
  subst hM
  obtain ⟨o, ho⟩ := Gl hm
  rcases hi.low a.block o ((List.Perm.mem_iff hp).2 (List.mem_append_left _ ho)) with hl | hl
  · omega
  · exact h.far a ha hn hl, h.cap⟩
theorem Inv.rs (hi : Inv w0 M w H) (hf : ∀ x, (f x).length = s) {ob : Option Nat} {T' : TypeId} {fr : Nat × Nat} {j : List Value} (hm : (ob, Obj.cells (arr f xs j).toArray T' fr) ∈ H) (hn : xs.length = n) (hc : n ≤ c) (h0 : ob = none → c = 0) :
    RS w [] f s (sb ob) n c xs := ⟨hi.roO hf hm hn (fun e => by have := h0 e; omega), fun _ _ _ => by simp, hc⟩
theorem Inv.rsM (hi : Inv w0 M w H) (hf : ∀ x, (f x).length = s) {ob : Option Nat} {T' : TypeId} {fr : Nat × Nat} {j : List Value} (hp : List.Perm H (Hm ++ R)) (hM : Hm.filterMap (·.1) = M')
    (hm : (ob, Obj.cells (arr f xs j).toArray T' fr) ∈ R) (hn : xs.length = n) (hc : n ≤ c) (h0 : ob = none → c = 0) : RS w M' f s (sb ob) n c xs :=
  ⟨hi.roO hf ((List.Perm.mem_iff hp).2 (List.mem_append_right _ hm)) hn (fun e => by have := h0 e; omega), fun a ha _ hmM => by
    cases ob with
    | none => cases ha
    | some b =>
      simp only [sb, Option.map_some, Option.some.injEq] at ha
      subst ha
      subst hM
      have ha := (hi.perm hp).apart
      rw [List.filterMap_append] at ha
      exact (List.nodup_append.1 ha).2.2 _ hmM _ (Nn hm) rfl, hc⟩
theorem HB.mono {b : Nat} {cs : List Value} (h : HB w0 M b cs) (hi : Inv w0 M w H) : HB w [] b cs := ⟨fun j v hj => hi.cell_old (h.has j v hj) h.far, by simp⟩
theorem Inv.hb (hi : Inv w0 M w H) {b : Nat} {cs : List Value} {T' : TypeId} {fr : Nat × Nat} (hm : (some b, Obj.cells cs.toArray T' fr) ∈ H) : HB w [] b cs := ⟨hi.has hm, by simp⟩
theorem Inv.hbM (hi : Inv w0 M w H) {b : Nat} {cs : List Value} {T' : TypeId} {fr : Nat × Nat} (hp : List.Perm H (Hm ++ R)) (hM : Hm.filterMap (·.1) = M') (hm : (some b, Obj.cells cs.toArray T' fr) ∈ R) : HB w M' b cs :=
 ⟨hi.has ((List.Perm.mem_iff hp).2 (List.mem_append_right _ hm)), fun hmM => by
  subst hM
  have ha := (hi.perm hp).apart
  rw [List.filterMap_append] at ha
  exact (List.nodup_append.1 ha).2.2 _ hmM _ (Nn hm) rfl⟩
end
theorem Z96 {ob : Option Nat} {n c : Nat} {i : Int} {α : Type} {xs : List α} (h0 : ob = none → c = 0) (hc : n ≤ c) (hn : xs.length = n) (g : inb i xs.length) : ∃ b, ob = some b := by
 cases ob with
 | none => have := h0 rfl; obtain ⟨g1, g2⟩ := g; omega
 | some b => exact ⟨b, rfl⟩
theorem Vn {b c : Nat} : (some b : Option Nat) = none → c = 0 := fun e => by cases e
theorem Ks (c s : Nat) : ([] : List Value).length = (c - c) * s := by simp
theorem Rx {α : Type} {xs ys : List α} {n m : Nat} (h : xs.length = n) (g : ys.length = m) : (xs ++ ys).length = n + m := by rw [List.length_append, h, g]
theorem Nj {i : Int} {n : Nat} (g : inb i n) : i.toNat < n := by obtain ⟨g1, g2⟩ := g; omega
section rules
variable {C : Cx} {ops : Array Oper} {Q : Exit → Act → World → Prop} {l : List Nat} {E : Env} {H R : Heap} {i d : Nat} {ty : TypeId} {Zc : String} {af : Array Edge} {g : Option (Nat × Bool)}
theorem Wk {α : Type} {t : TypeId} {at' : Array TypeId} {x : Operand} {e : TypeId} {base : Option Addr} {n c : Nat} {xs : List α} (hn : xs.length = n)
    (q0_ : ops[i]? = some ⟨some d, .call ⟨.builtin .len, #[x], at'⟩, ty, Zc, af, g⟩ ∧ Zk ops E g = true ∧ Nat.ble (d + 1) C.n = true ∧ at'[0]? = some t ∧ ev E x = some (.slice base n c)) (ht : Xi C.P t = some e) (kk : TO C ops Q l ((d, .int .i64 (xs.length : Int)) :: E) H) : TO C ops Q (i :: l) E H := have ⟨ho, hg, hd, hat, hx⟩ := q0_;
  TO.len ho hg hd hat hx ht (by rw [← hn]; exact kk)
theorem Jf {α : Type} {f : α → List Value} {M : List Nat} {w : World} {xs : List α} {t e : TypeId} {x y : Operand} {base : Option Addr} {n c s : Nat} {k : IntKind} {p : Int} (hr : RS w M f s base n c xs) (hp : inb p xs.length)
    (q0_ : ops[i]? = some ⟨some d, .indexAddr t x y, ty, Zc, af, g⟩ ∧ Zk ops E g = true ∧ Nat.ble (d + 1) C.n = true ∧ ev E x = some (.slice base n c) ∧ ev E y = some (.int k p)) (ht : Xi C.P t = some e) (hs : Yq C.P e = some s)
    (kk : TO C ops Q l ((d, .pointer (some (ea base (p.toNat * s)))) :: E) H) : TO C ops Q (i :: l) E H := have ⟨ho, hg, hd, hx, hy⟩ := q0_;
  Z7r ho hg hd hx hy ht hs hr.ro.nil hp.1 (by have := hp.2; rw [hr.len] at this; exact this) kk
theorem TO.ix0 {α : Type} {xs : List α} {t e : TypeId} {x y : Operand} {b n c s : Nat} {k : IntKind} {p : Int} (hn : xs.length = n) (hp : inb p xs.length)
    (ho : ops[i]? = some ⟨some d, .indexAddr t x y, ty, Zc, af, g⟩) (hg : Zk ops E g = true) (hd : Nat.ble (d + 1) C.n = true)
    (hx : ev E x = some (.slice (some ⟨b, 0, none⟩) n c)) (hy : ev E y = some (.int k p)) (ht : Xi C.P t = some e) (hs : Yq C.P e = some s)
    (kk : TO C ops Q l ((d, .pointer (some ⟨b, p.toNat * s, none⟩)) :: E) H) : TO C ops Q (i :: l) E H :=
  Z8f ho hg hd hx hy ht hs hp.1 (by have := hp.2; rw [hn] at this; exact this) kk
theorem TO.ix1 {α : Type} {xs : List α} {t e : TypeId} {x y : Operand} {b n c : Nat} {k : IntKind} {p : Int} (hn : xs.length = n) (hp : inb p xs.length)
    (q0_ : ops[i]? = some ⟨some d, .indexAddr t x y, ty, Zc, af, g⟩ ∧ Zk ops E g = true ∧ Nat.ble (d + 1) C.n = true ∧ ev E x = some (.slice (some ⟨b, 0, none⟩) n c) ∧ ev E y = some (.int k p)) (ht : Xi C.P t = some e) (hs : Yq C.P e = some 1)
    (kk : TO C ops Q l ((d, .pointer (some ⟨b, p.toNat, none⟩)) :: E) H) : TO C ops Q (i :: l) E H := have ⟨ho, hg, hd, hx, hy⟩ := q0_;
  Zdu ho hg hd hx hy ht hs hp.1 (by have := hp.2; rw [hn] at this; exact this) kk
theorem TO.ldIR {t : TypeId} {x : Operand} {base : Option Addr} {n c : Nat} {k : IntKind} {p : Int} {xs : List Int} (hr : RS C.w0 C.M (intC k) 1 base n c xs) (hp : inb p xs.length) (q0_ : ops[i]? = some ⟨some d, .load t x, ty, Zc, af, g⟩ ∧ Zk ops E g = true ∧ Nat.ble (d + 1) C.n = true ∧ ev E x = some (.pointer (some (ea base (p.toNat * 1))))) (hT : Xv C.P t = true)
    (kk : TO C ops Q l ((d, .int k (xs.getD p.toNat 0)) :: E) H) : TO C ops Q (i :: l) E H := have ⟨ho, hg, hd, hx⟩ := q0_;
  TO.load ho hg hd hx hT (fun w hi => by
    have := (hr.ro.monoM hr.far hi).at 0 (o := p.toNat) (c := 0) (Nj hp) (by omega)
    simpa using this) kk
theorem Z19 {α : Type} {f : α → List Value} {s : Nat} {t : TypeId} {x : Operand} {base : Option Addr} {n c : Nat} {p : Int} {xs : List α} {cs : List Value} (dflt : α) (hr : RS C.w0 C.M f s base n c xs) (hp : inb p xs.length) (q0_ : ops[i]? = some ⟨some d, .load t x, ty, Zc, af, g⟩ ∧ Zk ops E g = true ∧ Nat.ble (d + 1) C.n = true ∧ ev E x = some (.pointer (some (ea base (p.toNat * s)))) ∧ f (xs.getD p.toNat dflt) = cs) (hT : Vr C.P t s = true)
    (kk : TO C ops Q l ((d, .agg cs.toArray) :: E) H) : TO C ops Q (i :: l) E H := have ⟨ho, hg, hd, hx, hcs⟩ := q0_;
  Z29 ho hg hd hx hT (by rw [← hcs]; exact hr.ro.wide _) (fun w hi q v hq => by
    subst hcs
    have hqs : q < s := by rw [← hr.ro.wide (xs.getD p.toNat dflt)]; exact (List.getElem?_eq_some_iff.1 hq).1
    have := (hr.ro.monoM hr.far hi).at dflt (o := p.toNat) (c := q) (Nj hp) hqs
    rw [Z5v]
    exact this.trans hq) kk
theorem TO.ldFR {α : Type} {f : α → List Value} {s : Nat} {t : TypeId} {x : Operand} {base : Option Addr} {n c q : Nat} {p : Int} {xs : List α} {v : Value} (dflt : α) (hr : RS C.w0 C.M f s base n c xs) (hp : inb p xs.length) (hv : (f (xs.getD p.toNat dflt))[q]? = some v)
    (ho : ops[i]? = some ⟨some d, .load t x, ty, Zc, af, g⟩) (hg : Zk ops E g = true) (hd : Nat.ble (d + 1) C.n = true)
    (hx : ev E x = some (.pointer (some (ea base (p.toNat * s + q))))) (hT : Xv C.P t = true)
    (kk : TO C ops Q l ((d, v) :: E) H) : TO C ops Q (i :: l) E H :=
  TO.load ho hg hd hx hT (fun w hi => by
    have hqs : q < s := by rw [← hr.ro.wide (xs.getD p.toNat dflt)]; exact (List.getElem?_eq_some_iff.1 hv).1
    have := (hr.ro.monoM hr.far hi).at dflt (o := p.toNat) (c := q) (Nj hp) hqs
    exact this.trans hv) kk
theorem TO.ldFO {α : Type} {f : α → List Value} {s : Nat} {t T' : TypeId} {x : Operand} {b q : Nat} {p : Int} {xs : List α} {j : List Value} {fr : Nat × Nat} {v : Value} (dflt : α) (hf : ∀ x, (f x).length = s) (hp : inb p xs.length) (hv : (f (xs.getD p.toNat dflt))[q]? = some v)
    (ho : ops[i]? = some ⟨some d, .load t x, ty, Zc, af, g⟩) (hg : Zk ops E g = true) (hd : Nat.ble (d + 1) C.n = true)
    (hx : ev E x = some (.pointer (some ⟨b, p.toNat * s + q, none⟩))) (hT : Xv C.P t = true) (hm : (some b, Obj.cells (arr f xs j).toArray T' fr) ∈ H)
    (kk : TO C ops Q l ((d, v) :: E) H) : TO C ops Q (i :: l) E H :=
  Zm ⟨ho, hg, hd, hx⟩ hT hm (by
    have hqs : q < s := by rw [← hf (xs.getD p.toNat dflt)]; exact (List.getElem?_eq_some_iff.1 hv).1
    have := Z8q hf dflt xs j p.toNat q (Nj hp) hqs
    rw [List.getElem?_toArray, this]; exact hv) kk
where hf_set_len {α : Type} {f : α → List Value} {s : Nat} {x : α} {q : Nat} {v : Value} (hf : ∀ x, (f x).length = s) : ((f x).set q v).length = s := by rw [List.length_set, hf]
theorem Ui {t t2 : TypeId} {x y : Operand} {p q : Int} (h : i64ok (p + q)) (q0_ : ops[i]? = some ⟨some d, .binOp .add t x y t2, ty, Zc, af, g⟩ ∧ Zk ops E g = true ∧ Nat.ble (d + 1) C.n = true ∧ ev E x = some (.int .i64 p) ∧ ev E y = some (.int .i64 q))
    (kk : TO C ops Q l ((d, .int .i64 (p + q)) :: E) H) : TO C ops Q (i :: l) E H := have ⟨ho, hg, hd, hx, hy⟩ := q0_; TO.add ho hg hd hx hy h.1 h.2 kk
theorem Z37 {t t2 : TypeId} {x y : Operand} {p q : Int} (h : i64ok (p - q)) (q0_ : ops[i]? = some ⟨some d, .binOp .sub t x y t2, ty, Zc, af, g⟩ ∧ Zk ops E g = true ∧ Nat.ble (d + 1) C.n = true ∧ ev E x = some (.int .i64 p) ∧ ev E y = some (.int .i64 q))
    (kk : TO C ops Q l ((d, .int .i64 (p - q)) :: E) H) : TO C ops Q (i :: l) E H := have ⟨ho, hg, hd, hx, hy⟩ := q0_; TO.sub ho hg hd hx hy h.1 h.2 kk
theorem TO.negG {t : TypeId} {x : Operand} {p : Int} (h : i64ok (-p)) (q0_ : ops[i]? = some ⟨some d, .unOp .neg t x, ty, Zc, af, g⟩ ∧ Zk ops E g = true ∧ Nat.ble (d + 1) C.n = true ∧ ev E x = some (.int .i64 p)) (kk : TO C ops Q l ((d, .int .i64 (-p)) :: E) H) : TO C ops Q (i :: l) E H := have ⟨ho, hg, hd, hx⟩ := q0_; TO.neg ho hg hd hx (by rw [Z2b h.1 h.2]; exact kk)
theorem Z1f {α : Type} {f : α → List Value} {s by' : Nat} {z : Value} {t e : TypeId} {x y : Operand} {ob : Option Nat} {base : Option Addr} {n c m cy : Nat} {xs ys : List α} {j : List Value}
    (hf : ∀ x, (f x).length = s) (h1 : ∀ x, (f x).all (·.oneCell') = true) (hT : ElemT C.P t e s by' z) (hk : apok (xs ++ ys).length by')
    (q0_ : ops[i]? = some ⟨some d, .call ⟨.builtin .append, #[x, y], #[t, t]⟩, ty, Zc, af, g⟩ ∧ Zk ops E g = true ∧ Nat.ble (d + 1) C.n = true ∧ ev E x = some (.slice (sb ob) n c) ∧ ev E y = some (.slice base m cy))
    (ht : Take (ob, .cells (arr f xs j).toArray e (0, 0)) H R) (hn : xs.length = n) (hnc : n ≤ c) (hj : j.length = (c - n) * s) (h0 : ob = none → c = 0)
    (hsrc : ∀ w, Inv C.w0 C.M w H → RS w [] f s base m cy ys)
    (kk : ∀ (ob' : Option Nat) (c' : Nat) (j' : List Value), n + m ≤ c' → j'.length = (c' - (n + m)) * s → (ob' = none → c' = 0) → TO C ops Q l ((d, .slice (sb ob') (n + m) c') :: E) ((ob', .cells (arr f (xs ++ ys) j').toArray e (0, 0)) :: R)) :
    TO C ops Q (i :: l) E H := by
  obtain ⟨ho, hg, hd, hx, hy⟩ := q0_
  by_cases hm : ys.length = m
  · have hl : (xs ++ ys).length = n + m := Rx hn hm
    rw [hl] at hk
    exact TO.append hf h1 hT ho hg hd hx hy ht hn hnc hj h0 (fun w hi => (hsrc w hi).ro) hk.1 hk.2 kk
  · intro a w _ hi
    exact absurd (hsrc w hi).len hm
theorem Zx {f : FuncId} {xs : Array Operand} {at' : Array TypeId} {vs : List Value} {Post : Value → Heap → Prop} (hF : Zz C.P f = true)
    (q0_ : ops[i]? = some ⟨some d, .call ⟨.value (.func f), xs, at'⟩, ty, Zc, af, g⟩ ∧ Zk ops E g = true ∧ Nat.ble (d + 1) C.n = true ∧ Wx E xs.toList = some vs)
    (hc : ∀ w, Inv C.w0 C.M w H → Fnc C.P f vs.toArray w [] Post)
    (kk : ∀ v N, Post v N → TO C ops Q l ((d, v) :: E) (N ++ H)) : TO C ops Q (i :: l) E H := have ⟨ho, hg, hd, hx⟩ := q0_; TO.call ho hg hd hF hx hc kk
end rules
end Go.Acq
namespace Go.Acq
open Go Go.RowKit
section rules
variable {C : Cx} {ops : Array Oper} {Q : Exit → Act → World → Prop} {l : List Nat} {E : Env} {H R : Heap} {i d : Nat} {ty : TypeId} {Zc : String} {af : Array Edge} {g : Option (Nat × Bool)}
theorem Ul {t : TypeId} {x : Operand} {b o : Nat} {cs : List Value} {v : Value} (hc : HB C.w0 C.M b cs) (q0_ : ops[i]? = some ⟨some d, .load t x, ty, Zc, af, g⟩ ∧ Zk ops E g = true ∧ Nat.ble (d + 1) C.n = true ∧ ev E x = some (.pointer (some ⟨b, o, none⟩)) ∧ cs[o]? = some v) (hT : Xv C.P t = true)
    (kk : TO C ops Q l ((d, v) :: E) H) : TO C ops Q (i :: l) E H := have ⟨ho, hg, hd, hx, hv⟩ := q0_; TO.load ho hg hd hx hT (fun w hi => hi.cell_old (hc.has o v hv) hc.far) kk
theorem Z7m {t : TypeId} {x : Operand} {b k : Nat} {cs : List Value} (hc : HB C.w0 C.M b cs) (q0_ : ops[i]? = some ⟨some d, .load t x, ty, Zc, af, g⟩ ∧ Zk ops E g = true ∧ Nat.ble (d + 1) C.n = true ∧ ev E x = some (.pointer (some ⟨b, 0, none⟩)) ∧ cs.length = k) (hT : Vr C.P t k = true)
    (kk : TO C ops Q l ((d, .agg cs.toArray) :: E) H) : TO C ops Q (i :: l) E H := have ⟨ho, hg, hd, hx, hk⟩ := q0_;
  Z29 ho hg hd hx hT hk (fun w hi j v hv => by rw [Addr.add_mid, Nat.zero_add]; exact hi.cell_old (hc.has j v hv) hc.far) kk
theorem Z4k {f : FuncId} {xs : Array Operand} {at' : Array TypeId} {vs : List Value} {M : List Nat} {Hm : Heap} {Post : Value → Heap → Prop} (hF : Zz C.P f = true)
    (q0_ : ops[i]? = some ⟨some d, .call ⟨.value (.func f), xs, at'⟩, ty, Zc, af, g⟩ ∧ Zk ops E g = true ∧ Nat.ble (d + 1) C.n = true ∧ Wx E xs.toList = some vs) (hH : List.Perm H (Hm ++ R)) (hM : Hm.filterMap (·.1) = M)
    (hc : ∀ w, Inv C.w0 C.M w H → Fnc C.P f vs.toArray w M Post)
    (kk : ∀ v N, Post v N → TO C ops Q l ((d, v) :: E) (N ++ R)) : TO C ops Q (i :: l) E H := have ⟨ho, hg, hd, hx⟩ := q0_;
  Z2v (Hm := Hm) (R := R) ho hg rfl (by simp) hd (fun a w hf hi => by
    have e1 : xs.map a.eval = vs.toArray := by apply Array.ext'; simpa using Jh hf hx
    simp [execOp, resolve, Deferred.ofValue, invoke, Act.eval, e1, Kr hF]) hH (fun m h => by rw [hM]; exact h) hc kk
theorem Uc {f : FuncId} {x : Operand} {xs : Array Operand} {at' : Array TypeId} {vs : List Value} {fs cs : Array Value} {Post : Value → Heap → Prop} (hF : Zz C.P f = true)
    (q0_ : ops[i]? = some ⟨some d, .call ⟨.value x, xs, at'⟩, ty, Zc, af, g⟩ ∧ Zk ops E g = true ∧ Nat.ble (d + 1) C.n = true ∧ ev E x = some (.func (.func f) fs cs) ∧ Wx E xs.toList = some vs)
    (hc : ∀ w, Inv C.w0 C.M w H → Fnc C.P f (fs ++ vs.toArray ++ cs) w [] Post)
    (kk : ∀ v N, Post v N → TO C ops Q l ((d, v) :: E) (N ++ H)) : TO C ops Q (i :: l) E H := have ⟨ho, hg, hd, hfv, hx⟩ := q0_; TO.callV ho hg hd hF hfv hx hc kk
theorem Z4y {f : FuncId} {x : Operand} {xs : Array Operand} {at' : Array TypeId} {vs : List Value} {fs cs : Array Value} {M : List Nat} {Hm : Heap} {Post : Value → Heap → Prop} (hF : Zz C.P f = true)
    (q0_ : ops[i]? = some ⟨some d, .call ⟨.value x, xs, at'⟩, ty, Zc, af, g⟩ ∧ Zk ops E g = true ∧ Nat.ble (d + 1) C.n = true ∧ ev E x = some (.func (.func f) fs cs) ∧ Wx E xs.toList = some vs) (hH : List.Perm H (Hm ++ R)) (hM : Hm.filterMap (·.1) = M)
    (hc : ∀ w, Inv C.w0 C.M w H → Fnc C.P f (fs ++ vs.toArray ++ cs) w M Post)
    (kk : ∀ v N, Post v N → TO C ops Q l ((d, v) :: E) (N ++ R)) : TO C ops Q (i :: l) E H := have ⟨ho, hg, hd, hfv, hx⟩ := q0_; Zex ho hg hd hF hfv hx hH (fun m h => by rw [hM]; exact h) hc kk
end rules
section ends
variable {C : Cx} {E : Env} {H N : Heap}
theorem Kd {fn : Func} {w0 : World} {M : List Nat} {Post : Value → Heap → Prop} (q0_ : C.w0 = w0 ∧ C.M = M ∧ C.D = [] ∧ fn.results.toList = []) (hN : Pick N H) (hP : Post (.tuple #[]) N) :
    X C (bodyPost C.P fn (Xu w0 M Post)) .ret E H := have ⟨hw, hMM, hD, hfn⟩ := q0_;
  X.ret (vs := []) hw hMM hD hfn (fun j r' u h1 h2 => by simp at h1) Yy hN hP
end ends
end Go.Acq
namespace Go.Acq
open Go Go.RowKit
section
variable {C : Cx} {ops : Array Oper} {Q : Exit → Act → World → Prop} {l : List Nat} {E : Env} {H : Heap} {c : Code}
theorem TO.addNone (o : Obj) (k : TO C ops Q l E ((Option.none, o) :: H)) : TO C ops Q l E H := fun a w hf hi => k a w hf (hi.addNone o)
end
end Go.Acq
namespace Go.Acq
open Go Go.RowKit
section control
variable {C : Cx} {Q : Exit → Act → World → Prop} {E : Env} {H : Heap} {c : Code}
def RAt (C : Cx) (c : Code) (Q : Exit → Act → World → Prop) (a : Act) (w : World) : Prop :=
  ∀ (b : Frame) (k : List Item) (cs : List Frame), b.roundOf = (FW C.ρ).round → (FW C.ρ).fn b.fn → (FW C.ρ).room (cs.length + 1 + 0) →
    ∃ e a' w', Q e a' w' ∧ ArrivesIn (Machine.fenced C.P (FW C.ρ)) C.P (lone (b.atR a (.code c :: .inLoop c :: k)) cs w) b k cs e a' w'
def RT (C : Cx) (c : Code) (Q : Exit → Act → World → Prop) (E : Env) (H : Heap) : Prop := ∀ a w, Fits C.n C.D E a → Inv C.w0 C.M w H → RAt C c Q a w
theorem T.loopU (h : RT C c Q E H) : T C (.loop c) Q E H := by
 intro a w hf hi b k cs hro hb hr
 obtain ⟨e, a', w', hq, harr⟩ := h a w hf hi b k cs hro hb hr
 exact ⟨e, a', w', hq, .of_steps (.one (fenced_calm hb hr rfl) stepR_loop) harr⟩
theorem RT.round (h : T C c (Exit.then (RAt C c Q) Q) E H) : RT C c Q E H := by
 intro a w hf hi b k cs hro hb hr
 obtain ⟨e, a₁, w₁, hq, harr⟩ := h a w hf hi b (.inLoop c :: k) cs hro hb hr
 cases e with
 | normal =>
  obtain ⟨e₂, a₂, w₂, hq₂, harr₂⟩ := hq b k cs hro hb hr
  exact ⟨e₂, a₂, w₂, hq₂, .of_steps (StepsIn.trans harr (.one (fenced_calm hb hr rfl) stepR_inLoop)) harr₂⟩
 | exit id => exact ⟨_, a₁, w₁, hq, .pass (x := .inLoop c) rfl (fun _ _ => .inl (by simp)) harr⟩
 | goto l => exact ⟨_, a₁, w₁, hq, .pass (x := .inLoop c) rfl (fun _ _ => .inl (by simp)) harr⟩
 | ret => exact ⟨_, a₁, w₁, hq, .pass (x := .inLoop c) rfl (fun _ _ => .inl (by simp)) harr⟩
 | panic ch => exact ⟨_, a₁, w₁, hq, .pass (x := .inLoop c) rfl (fun _ _ => .inl (by simp)) harr⟩
 | outgrown => exact ⟨_, a₁, w₁, hq, .pass (x := .inLoop c) rfl (fun _ _ => .inl (by simp)) harr⟩
theorem X.round (h : RT C c Q E H) : X C (Exit.then (RAt C c Q) Q) .normal E H := h
end control
section
variable {α : Type} {w : World} {M : List Nat} {f : α → List Value} {s n c : Nat} {base : Option Addr} {xs : List α}
def Kl (base : Option Addr) (l c s : Nat) : Option Addr := if c = l then base else base.map (·.add (l * s))
theorem RS.take (h : RS w M f s base n c xs) {p : Int} (hp : 0 ≤ p ∧ p ≤ (xs.length : Int)) : RS w M f s base p.toNat c (xs.take p.toNat) := by
 have hl := h.len
 have hm : p.toNat ≤ n := by omega
 exact ⟨h.ro.take hm, fun a ha h0 => h.far a ha (by omega), Nat.le_trans hm h.cap⟩
theorem ea_low (base : Option Addr) (l c s o : Nat) (hb : base ≠ none) (hc : c ≠ l) : ea (Kl base l c s) o = ea base (l * s + o) := by
 cases base with
 | none => exact absurd rfl hb
 | some a =>
  unfold Kl
  rw [if_neg hc]
  show (a.add (l * s)).add o = _
  exact Z5v (some a) (l * s) o
theorem RS.drop (h : RS w M f s base n c xs) {p : Int} (hp : 0 ≤ p ∧ p ≤ (xs.length : Int)) : RS w M f s (Kl base p.toNat c s) (n - p.toNat) (c - p.toNat) (xs.drop p.toNat) := by
 have hl := h.len
 have hc := h.cap
 refine ⟨⟨by rw [List.length_drop, hl], fun hb => ?_, h.ro.wide, fun o q ho hq x hx => ?_⟩, fun a ha h0 => ?_, by omega⟩
 ·
  unfold Kl at hb
  split at hb
  · omega
  ·
   have : base = none := by cases base <;> simp_all
   have := h.ro.nil this; omega
 ·
  rw [List.length_drop] at ho
  have hcl : c ≠ p.toNat := by omega
  have hbn : base ≠ none := fun e => by have := h.ro.nil e; omega
  rw [ea_low base _ _ _ _ hbn hcl, show p.toNat * s + (o * s + q) = (p.toNat + o) * s + q by rw [Nat.add_mul]; omega]
  exact h.ro.cell (p.toNat + o) q (by omega) hq x (by rw [List.getElem?_drop] at hx; exact hx)
 ·
  cases base with
  | none => unfold Kl at ha; split at ha <;> cases ha
  | some a0 =>
   have := h.far a0 rfl (by omega)
   unfold Kl at ha
   split at ha
   · injection ha with ha; subst ha; exact this
   ·
    simp only [Option.map_some, Option.some.injEq] at ha
    subst ha
    have : (a0.add (p.toNat * s)).block = a0.block := by simp only [Addr.add]; split <;> rfl
    rw [this]; assumption
end
section rules
variable {C : Cx} {ops : Array Oper} {Q : Exit → Act → World → Prop} {l : List Nat} {E : Env} {H R : Heap} {i d : Nat} {ty : TypeId} {Zc : String} {af : Array Edge} {g : Option (Nat × Bool)}
theorem Z55 {α : Type} {xs : List α} {t e : TypeId} {x y : Operand} {base : Option Addr} {n c s : Nat} {k : IntKind} {p : Int} (hn : xs.length = n) (hc : n ≤ c) (hp : 0 ≤ p ∧ p ≤ (xs.length : Int))
    (q0_ : ops[i]? = some ⟨some d, .slice t x none (some y) none, ty, Zc, af, g⟩ ∧ Zk ops E g = true ∧ Nat.ble (d + 1) C.n = true ∧ ev E x = some (.slice base n c) ∧ ev E y = some (.int k p)) (ht : Xi C.P t = some e) (hs : Yq C.P e = some s)
    (kk : TO C ops Q l ((d, .slice base p.toNat c) :: E) H) : TO C ops Q (i :: l) E H := have ⟨ho, hg, hd, hx, hy⟩ := q0_;
  Zal ho hg hd hx hy ht hs hp.1 (by have := hp.2; omega) kk
theorem TO.slL {α : Type} {xs : List α} {t e : TypeId} {x y : Operand} {base : Option Addr} {n c s : Nat} {k : IntKind} {p : Int} (hn : xs.length = n) (hp : 0 ≤ p ∧ p ≤ (xs.length : Int))
    (q0_ : ops[i]? = some ⟨some d, .slice t x (some y) none none, ty, Zc, af, g⟩ ∧ Zk ops E g = true ∧ Nat.ble (d + 1) C.n = true ∧ ev E x = some (.slice base n c) ∧ ev E y = some (.int k p)) (ht : Xi C.P t = some e) (hs : Yq C.P e = some s)
    (kk : TO C ops Q l ((d, .slice (Kl base p.toNat c s) (n - p.toNat) (c - p.toNat)) :: E) H) : TO C ops Q (i :: l) E H := have ⟨ho, hg, hd, hx, hy⟩ := q0_;
  TO.val ho hg hd (by simp) (fun a w hf hi => by
    have hu := Kp ht
    have h1 : 0 ≤ p ∧ p ≤ (n : Int) := by rw [hn] at hp; exact hp
    simp [execOp, hf.ev hx, hf.ev hy, Instr.sliceAt, Instr.slice, Instr.sliceBounds, Instr.sliceBound, asIntOf, run_underlying hu, h1.1, h1.2, Gx hs, Kl]) kk
theorem Z0f {t e : TypeId} {x y : Operand} {cs vs : List Value} {k : IntKind} {p : Int} {n s : Nat} (q0_ : ops[i]? = some ⟨some d, .index t x y, ty, Zc, af, g⟩ ∧ Zk ops E g = true ∧ Nat.ble (d + 1) C.n = true ∧ ev E x = some (.agg cs.toArray) ∧ ev E y = some (.int k p)) (hT : C.P.underlying t = some (.array n e)) (hs : Vr C.P e s = true) (h0 : 0 ≤ p ∧ p < (n : Int)) (hv : (cs.drop (p.toNat * s)).take s = vs)
    (kk : TO C ops Q l ((d, .agg vs.toArray) :: E) H) : TO C ops Q (i :: l) E H := have ⟨ho, hg, hd, hx, hy⟩ := q0_; Zaf ho hg hd hx hy hT hs h0.1 h0.2 hv kk
theorem Lk {op : BinOp} {t t2 : TypeId} {x y : Operand} {k : IntKind} {p q : Int} {c : Prop} {hc : Decidable c} {b : Bool}
    (q0_ : ops[i]? = some ⟨some d, .binOp op t x y t2, ty, Zc, af, g⟩ ∧ Zk ops E g = true ∧ Nat.ble (d + 1) C.n = true ∧ ev E x = some (.int k p) ∧ ev E y = some (.int k q) ∧ Lj op k p q = some (.bool (@decide c hc))) (h : @decide c hc = b) (kk : TO C ops Q l ((d, .bool b) :: E) H) : TO C ops Q (i :: l) E H := have ⟨ho, hg, hd, hx, hy, hv⟩ := q0_;
  Yb ⟨ho, hg, hd, hx, hy, hv⟩ (by rw [h]; exact kk)
theorem Ri {t t2 : TypeId} {x y : Operand} {p q r : Int} (h : p + q = r ∧ i64ok r)
    (q0_ : ops[i]? = some ⟨some d, .binOp .add t x y t2, ty, Zc, af, g⟩ ∧ Zk ops E g = true ∧ Nat.ble (d + 1) C.n = true ∧ ev E x = some (.int .i64 p) ∧ ev E y = some (.int .i64 q))
    (kk : TO C ops Q l ((d, .int .i64 r) :: E) H) : TO C ops Q (i :: l) E H := have ⟨ho, hg, hd, hx, hy⟩ := q0_; Ui (by rw [h.1]; exact h.2) ⟨ho, hg, hd, hx, hy⟩ (by rw [h.1]; exact kk)
end rules
end Go.Acq
namespace Go.Acq
open Go Go.RowKit
end Go.Acq
namespace Go.Acq
open Go Go.RowKit
section rules
variable {C : Cx} {ops : Array Oper} {Q : Exit → Act → World → Prop} {l : List Nat} {E : Env} {H R : Heap} {i d : Nat} {ty : TypeId} {Zc : String} {af : Array Edge} {g : Option (Nat × Bool)}
end rules
end Go.Acq
namespace Go.Acq
open Go Go.RowKit
theorem Z7t (b k : Nat) : ea (some ⟨b, 0, none⟩) k = ⟨b, k, none⟩ := by simp [ea, Addr.add_mid]
section rules
variable {C : Cx} {ops : Array Oper} {Q : Exit → Act → World → Prop} {l : List Nat} {E : Env} {H R : Heap} {i d : Nat} {ty : TypeId} {Zc : String} {af : Array Edge} {g : Option (Nat × Bool)}
theorem Gf {α : Type} {xs : List α} {t e : TypeId} {x y : Operand} {ob : Option Nat} {n c s : Nat} {k : IntKind} {p : Int} (hz : ob = none → c = 0) (hc : n ≤ c) (hn : xs.length = n) (hp : inb p xs.length)
    (q0_ : ops[i]? = some ⟨some d, .indexAddr t x y, ty, Zc, af, g⟩ ∧ Zk ops E g = true ∧ Nat.ble (d + 1) C.n = true ∧ ev E x = some (.slice (sb ob) n c) ∧ ev E y = some (.int k p)) (ht : Xi C.P t = some e) (hs : Yq C.P e = some s)
    (kk : TO C ops Q l ((d, .pointer (some (ea (sb ob) (p.toNat * s)))) :: E) H) : TO C ops Q (i :: l) E H := by
  obtain ⟨ho, hg, hd, hx, hy⟩ := q0_
  obtain ⟨b, rfl⟩ := Z96 hz hc hn hp
  exact TO.ix0 hn hp ho hg hd hx hy ht hs (by rw [← Z7t]; exact kk)
end rules
end Go.Acq
namespace Go.Acq
open Go Go.RowKit
section
variable {C : Cx} {Q : Exit → Act → World → Prop} {E : Env} {H : Heap} {c x y : Code}
theorem Kj {α0 : Type} (φ : α0 → Prop) (L : α0 → Env) (Hs : α0 → Heap) (hx : T C x (Exit.then (fun ac w => ∃ (b0 : α0), φ b0 ∧ Fits C.n C.D (L b0) ac ∧ Inv C.w0 C.M w (Hs b0)) Q) E H)
    (hy : ∀ (b0 : α0), φ b0 → T C y Q (L b0) (Hs b0)) : T C x (Exit.then (y.wpIn (FW C.ρ) 0 C.P Q) Q) E H := T.mono hx (fun e ac w h => by
  cases e with
  | normal => obtain ⟨b0, h1, h2, h3⟩ := h; exact hy b0 h1 ac w h2 h3
  | _ => exact h)
theorem Vd {α0 : Type} {φ : α0 → Prop} {L : α0 → Env} {Hs : α0 → Heap} (b0 : α0) (hφ : φ b0) (hL : AllF (L b0) E) (hH : Pick (Hs b0) H) :
    X C (Exit.then (fun ac w => ∃ (b0 : α0), φ b0 ∧ Fits C.n C.D (L b0) ac ∧ Inv C.w0 C.M w (Hs b0)) Q) .normal E H := fun _ _ hf hi => ⟨b0, hφ, hf.all hL, hi.pick hH⟩
theorem Z3m {α0 α1 : Type} (φ : α0 → α1 → Prop) (L : α0 → α1 → Env) (Hs : α0 → α1 → Heap) (μ : α0 → α1 → Nat) (a0 : α0) (a1 : α1) (h0 : φ a0 a1) (hE : AllF (L a0 a1) E) (hH : Pick (Hs a0 a1) H)
    (round : ∀ (a0 : α0) (a1 : α1), φ a0 a1 → T C c (Exit.then (fun ac w => ∃ (b0 : α0) (b1 : α1), φ b0 b1 ∧ μ b0 b1 < μ a0 a1 ∧ Fits C.n C.D (L b0 b1) ac ∧ Inv C.w0 C.M w (Hs b0 b1)) Q) (L a0 a1) (Hs a0 a1)) : T C (.loop c) Q E H :=
  Z2k (α := α0 × α1) (fun s => φ s.1 s.2) (fun s => L s.1 s.2) (fun s => Hs s.1 s.2) (fun s => μ s.1 s.2) (a0, a1) h0 hE hH (fun s hs => T.mono (round s.1 s.2 hs) (fun e ac w h => by
    cases e with
    | normal => obtain ⟨b0, b1, h1, h2, h3, h4⟩ := h; exact ⟨⟨b0, b1⟩, h1, h2, h3, h4⟩
    | _ => exact h))
theorem Z3c {α0 α1 : Type} {φ : α0 → α1 → Prop} {L : α0 → α1 → Env} {Hs : α0 → α1 → Heap} {μ : α0 → α1 → Nat} {m : Nat} (b0 : α0) (b1 : α1) (hφ : φ b0 b1) (hμ : μ b0 b1 < m) (hL : AllF (L b0 b1) E) (hH : Pick (Hs b0 b1) H) :
    X C (Exit.then (fun ac w => ∃ (b0 : α0) (b1 : α1), φ b0 b1 ∧ μ b0 b1 < m ∧ Fits C.n C.D (L b0 b1) ac ∧ Inv C.w0 C.M w (Hs b0 b1)) Q) .normal E H := fun _ _ hf hi => ⟨b0, b1, hφ, hμ, hf.all hL, hi.pick hH⟩
theorem T.loopE3 {α0 α1 α2 : Type} (φ : α0 → α1 → α2 → Prop) (L : α0 → α1 → α2 → Env) (Hs : α0 → α1 → α2 → Heap) (μ : α0 → α1 → α2 → Nat) (a0 : α0) (a1 : α1) (a2 : α2) (h0 : φ a0 a1 a2) (hE : AllF (L a0 a1 a2) E) (hH : Pick (Hs a0 a1 a2) H)
    (round : ∀ (a0 : α0) (a1 : α1) (a2 : α2), φ a0 a1 a2 → T C c (Exit.then (fun ac w => ∃ (b0 : α0) (b1 : α1) (b2 : α2), φ b0 b1 b2 ∧ μ b0 b1 b2 < μ a0 a1 a2 ∧ Fits C.n C.D (L b0 b1 b2) ac ∧ Inv C.w0 C.M w (Hs b0 b1 b2)) Q) (L a0 a1 a2) (Hs a0 a1 a2)) : T C (.loop c) Q E H :=
  Z2k (α := α0 × α1 × α2) (fun s => φ s.1 s.2.1 s.2.2) (fun s => L s.1 s.2.1 s.2.2) (fun s => Hs s.1 s.2.1 s.2.2) (fun s => μ s.1 s.2.1 s.2.2) (a0, a1, a2) h0 hE hH (fun s hs => T.mono (round s.1 s.2.1 s.2.2 hs) (fun e ac w h => by
    cases e with
    | normal => obtain ⟨b0, b1, b2, h1, h2, h3, h4⟩ := h; exact ⟨⟨b0, b1, b2⟩, h1, h2, h3, h4⟩
    | _ => exact h))
theorem Zaa {α0 α1 α2 : Type} {φ : α0 → α1 → α2 → Prop} {L : α0 → α1 → α2 → Env} {Hs : α0 → α1 → α2 → Heap} {μ : α0 → α1 → α2 → Nat} {m : Nat} (b0 : α0) (b1 : α1) (b2 : α2) (hφ : φ b0 b1 b2) (hμ : μ b0 b1 b2 < m) (hL : AllF (L b0 b1 b2) E) (hH : Pick (Hs b0 b1 b2) H) :
    X C (Exit.then (fun ac w => ∃ (b0 : α0) (b1 : α1) (b2 : α2), φ b0 b1 b2 ∧ μ b0 b1 b2 < m ∧ Fits C.n C.D (L b0 b1 b2) ac ∧ Inv C.w0 C.M w (Hs b0 b1 b2)) Q) .normal E H := fun _ _ hf hi => ⟨b0, b1, b2, hφ, hμ, hf.all hL, hi.pick hH⟩
theorem Zbr {α0 α1 α2 α3 α4 : Type} (φ : α0 → α1 → α2 → α3 → α4 → Prop) (L : α0 → α1 → α2 → α3 → α4 → Env) (Hs : α0 → α1 → α2 → α3 → α4 → Heap) (hx : T C x (Exit.then (fun ac w => ∃ (b0 : α0) (b1 : α1) (b2 : α2) (b3 : α3) (b4 : α4), φ b0 b1 b2 b3 b4 ∧ Fits C.n C.D (L b0 b1 b2 b3 b4) ac ∧ Inv C.w0 C.M w (Hs b0 b1 b2 b3 b4)) Q) E H)
    (hy : ∀ (b0 : α0) (b1 : α1) (b2 : α2) (b3 : α3) (b4 : α4), φ b0 b1 b2 b3 b4 → T C y Q (L b0 b1 b2 b3 b4) (Hs b0 b1 b2 b3 b4)) : T C x (Exit.then (y.wpIn (FW C.ρ) 0 C.P Q) Q) E H := T.mono hx (fun e ac w h => by
  cases e with
  | normal => obtain ⟨b0, b1, b2, b3, b4, h1, h2, h3⟩ := h; exact hy b0 b1 b2 b3 b4 h1 ac w h2 h3
  | _ => exact h)
theorem X.metE5 {α0 α1 α2 α3 α4 : Type} {φ : α0 → α1 → α2 → α3 → α4 → Prop} {L : α0 → α1 → α2 → α3 → α4 → Env} {Hs : α0 → α1 → α2 → α3 → α4 → Heap} (b0 : α0) (b1 : α1) (b2 : α2) (b3 : α3) (b4 : α4) (hφ : φ b0 b1 b2 b3 b4) (hL : AllF (L b0 b1 b2 b3 b4) E) (hH : Pick (Hs b0 b1 b2 b3 b4) H) :
    X C (Exit.then (fun ac w => ∃ (b0 : α0) (b1 : α1) (b2 : α2) (b3 : α3) (b4 : α4), φ b0 b1 b2 b3 b4 ∧ Fits C.n C.D (L b0 b1 b2 b3 b4) ac ∧ Inv C.w0 C.M w (Hs b0 b1 b2 b3 b4)) Q) .normal E H := fun _ _ hf hi => ⟨b0, b1, b2, b3, b4, hφ, hf.all hL, hi.pick hH⟩
theorem Z6n {α0 α1 α2 α3 α4 α5 : Type} (φ : α0 → α1 → α2 → α3 → α4 → α5 → Prop) (L : α0 → α1 → α2 → α3 → α4 → α5 → Env) (Hs : α0 → α1 → α2 → α3 → α4 → α5 → Heap) (hx : T C x (Exit.then (fun ac w => ∃ (b0 : α0) (b1 : α1) (b2 : α2) (b3 : α3) (b4 : α4) (b5 : α5), φ b0 b1 b2 b3 b4 b5 ∧ Fits C.n C.D (L b0 b1 b2 b3 b4 b5) ac ∧ Inv C.w0 C.M w (Hs b0 b1 b2 b3 b4 b5)) Q) E H)
    (hy : ∀ (b0 : α0) (b1 : α1) (b2 : α2) (b3 : α3) (b4 : α4) (b5 : α5), φ b0 b1 b2 b3 b4 b5 → T C y Q (L b0 b1 b2 b3 b4 b5) (Hs b0 b1 b2 b3 b4 b5)) : T C x (Exit.then (y.wpIn (FW C.ρ) 0 C.P Q) Q) E H := T.mono hx (fun e ac w h => by
  cases e with
  | normal => obtain ⟨b0, b1, b2, b3, b4, b5, h1, h2, h3⟩ := h; exact hy b0 b1 b2 b3 b4 b5 h1 ac w h2 h3
  | _ => exact h)
theorem Z8s {α0 α1 α2 α3 α4 α5 : Type} {φ : α0 → α1 → α2 → α3 → α4 → α5 → Prop} {L : α0 → α1 → α2 → α3 → α4 → α5 → Env} {Hs : α0 → α1 → α2 → α3 → α4 → α5 → Heap} (b0 : α0) (b1 : α1) (b2 : α2) (b3 : α3) (b4 : α4) (b5 : α5) (hφ : φ b0 b1 b2 b3 b4 b5) (hL : AllF (L b0 b1 b2 b3 b4 b5) E) (hH : Pick (Hs b0 b1 b2 b3 b4 b5) H) :
    X C (Exit.then (fun ac w => ∃ (b0 : α0) (b1 : α1) (b2 : α2) (b3 : α3) (b4 : α4) (b5 : α5), φ b0 b1 b2 b3 b4 b5 ∧ Fits C.n C.D (L b0 b1 b2 b3 b4 b5) ac ∧ Inv C.w0 C.M w (Hs b0 b1 b2 b3 b4 b5)) Q) .normal E H := fun _ _ hf hi => ⟨b0, b1, b2, b3, b4, b5, hφ, hf.all hL, hi.pick hH⟩
theorem Z7o {α0 α1 α2 α3 α4 α5 α6 : Type} (φ : α0 → α1 → α2 → α3 → α4 → α5 → α6 → Prop) (L : α0 → α1 → α2 → α3 → α4 → α5 → α6 → Env) (Hs : α0 → α1 → α2 → α3 → α4 → α5 → α6 → Heap) (μ : α0 → α1 → α2 → α3 → α4 → α5 → α6 → Nat) (a0 : α0) (a1 : α1) (a2 : α2) (a3 : α3) (a4 : α4) (a5 : α5) (a6 : α6) (h0 : φ a0 a1 a2 a3 a4 a5 a6) (hE : AllF (L a0 a1 a2 a3 a4 a5 a6) E) (hH : Pick (Hs a0 a1 a2 a3 a4 a5 a6) H)
    (round : ∀ (a0 : α0) (a1 : α1) (a2 : α2) (a3 : α3) (a4 : α4) (a5 : α5) (a6 : α6), φ a0 a1 a2 a3 a4 a5 a6 → T C c (Exit.then (fun ac w => ∃ (b0 : α0) (b1 : α1) (b2 : α2) (b3 : α3) (b4 : α4) (b5 : α5) (b6 : α6), φ b0 b1 b2 b3 b4 b5 b6 ∧ μ b0 b1 b2 b3 b4 b5 b6 < μ a0 a1 a2 a3 a4 a5 a6 ∧ Fits C.n C.D (L b0 b1 b2 b3 b4 b5 b6) ac ∧ Inv C.w0 C.M w (Hs b0 b1 b2 b3 b4 b5 b6)) Q) (L a0 a1 a2 a3 a4 a5 a6) (Hs a0 a1 a2 a3 a4 a5 a6)) : T C (.loop c) Q E H :=
  Z2k (α := α0 × α1 × α2 × α3 × α4 × α5 × α6) (fun s => φ s.1 s.2.1 s.2.2.1 s.2.2.2.1 s.2.2.2.2.1 s.2.2.2.2.2.1 s.2.2.2.2.2.2) (fun s => L s.1 s.2.1 s.2.2.1 s.2.2.2.1 s.2.2.2.2.1 s.2.2.2.2.2.1 s.2.2.2.2.2.2) (fun s => Hs s.1 s.2.1 s.2.2.1 s.2.2.2.1 s.2.2.2.2.1 s.2.2.2.2.2.1 s.2.2.2.2.2.2) (fun s => μ s.1 s.2.1 s.2.2.1 s.2.2.2.1 s.2.2.2.2.1 s.2.2.2.2.2.1 s.2.2.2.2.2.2) (a0, a1, a2, a3, a4, a5, a6) h0 hE hH (fun s hs => T.mono (round s.1 s.2.1 s.2.2.1 s.2.2.2.1 s.2.2.2.2.1 s.2.2.2.2.2.1 s.2.2.2.2.2.2 hs) (fun e ac w h => by
    cases e with
    | normal => obtain ⟨b0, b1, b2, b3, b4, b5, b6, h1, h2, h3, h4⟩ := h; exact ⟨⟨b0, b1, b2, b3, b4, b5, b6⟩, h1, h2, h3, h4⟩
    | _ => exact h))
theorem Z6o {α0 α1 α2 α3 α4 α5 α6 : Type} {φ : α0 → α1 → α2 → α3 → α4 → α5 → α6 → Prop} {L : α0 → α1 → α2 → α3 → α4 → α5 → α6 → Env} {Hs : α0 → α1 → α2 → α3 → α4 → α5 → α6 → Heap} {μ : α0 → α1 → α2 → α3 → α4 → α5 → α6 → Nat} {m : Nat} (b0 : α0) (b1 : α1) (b2 : α2) (b3 : α3) (b4 : α4) (b5 : α5) (b6 : α6) (hφ : φ b0 b1 b2 b3 b4 b5 b6) (hμ : μ b0 b1 b2 b3 b4 b5 b6 < m) (hL : AllF (L b0 b1 b2 b3 b4 b5 b6) E) (hH : Pick (Hs b0 b1 b2 b3 b4 b5 b6) H) :
    X C (Exit.then (fun ac w => ∃ (b0 : α0) (b1 : α1) (b2 : α2) (b3 : α3) (b4 : α4) (b5 : α5) (b6 : α6), φ b0 b1 b2 b3 b4 b5 b6 ∧ μ b0 b1 b2 b3 b4 b5 b6 < m ∧ Fits C.n C.D (L b0 b1 b2 b3 b4 b5 b6) ac ∧ Inv C.w0 C.M w (Hs b0 b1 b2 b3 b4 b5 b6)) Q) .normal E H := fun _ _ hf hi => ⟨b0, b1, b2, b3, b4, b5, b6, hφ, hμ, hf.all hL, hi.pick hH⟩
theorem T.loopE8 {α0 α1 α2 α3 α4 α5 α6 α7 : Type} (φ : α0 → α1 → α2 → α3 → α4 → α5 → α6 → α7 → Prop) (L : α0 → α1 → α2 → α3 → α4 → α5 → α6 → α7 → Env) (Hs : α0 → α1 → α2 → α3 → α4 → α5 → α6 → α7 → Heap) (μ : α0 → α1 → α2 → α3 → α4 → α5 → α6 → α7 → Nat) (a0 : α0) (a1 : α1) (a2 : α2) (a3 : α3) (a4 : α4) (a5 : α5) (a6 : α6) (a7 : α7) (h0 : φ a0 a1 a2 a3 a4 a5 a6 a7) (hE : AllF (L a0 a1 a2 a3 a4 a5 a6 a7) E) (hH : Pick (Hs a0 a1 a2 a3 a4 a5 a6 a7) H)
    (round : ∀ (a0 : α0) (a1 : α1) (a2 : α2) (a3 : α3) (a4 : α4) (a5 : α5) (a6 : α6) (a7 : α7), φ a0 a1 a2 a3 a4 a5 a6 a7 → T C c (Exit.then (fun ac w => ∃ (b0 : α0) (b1 : α1) (b2 : α2) (b3 : α3) (b4 : α4) (b5 : α5) (b6 : α6) (b7 : α7), φ b0 b1 b2 b3 b4 b5 b6 b7 ∧ μ b0 b1 b2 b3 b4 b5 b6 b7 < μ a0 a1 a2 a3 a4 a5 a6 a7 ∧ Fits C.n C.D (L b0 b1 b2 b3 b4 b5 b6 b7) ac ∧ Inv C.w0 C.M w (Hs b0 b1 b2 b3 b4 b5 b6 b7)) Q) (L a0 a1 a2 a3 a4 a5 a6 a7) (Hs a0 a1 a2 a3 a4 a5 a6 a7)) : T C (.loop c) Q E H :=
  Z2k (α := α0 × α1 × α2 × α3 × α4 × α5 × α6 × α7) (fun s => φ s.1 s.2.1 s.2.2.1 s.2.2.2.1 s.2.2.2.2.1 s.2.2.2.2.2.1 s.2.2.2.2.2.2.1 s.2.2.2.2.2.2.2) (fun s => L s.1 s.2.1 s.2.2.1 s.2.2.2.1 s.2.2.2.2.1 s.2.2.2.2.2.1 s.2.2.2.2.2.2.1 s.2.2.2.2.2.2.2) (fun s => Hs s.1 s.2.1 s.2.2.1 s.2.2.2.1 s.2.2.2.2.1 s.2.2.2.2.2.1 s.2.2.2.2.2.2.1 s.2.2.2.2.2.2.2) (fun s => μ s.1 s.2.1 s.2.2.1 s.2.2.2.1 s.2.2.2.2.1 s.2.2.2.2.2.1 s.2.2.2.2.2.2.1 s.2.2.2.2.2.2.2) (a0, a1, a2, a3, a4, a5, a6, a7) h0 hE hH (fun s hs => T.mono (round s.1 s.2.1 s.2.2.1 s.2.2.2.1 s.2.2.2.2.1 s.2.2.2.2.2.1 s.2.2.2.2.2.2.1 s.2.2.2.2.2.2.2 hs) (fun e ac w h => by
    cases e with
    | normal => obtain ⟨b0, b1, b2, b3, b4, b5, b6, b7, h1, h2, h3, h4⟩ := h; exact ⟨⟨b0, b1, b2, b3, b4, b5, b6, b7⟩, h1, h2, h3, h4⟩
    | _ => exact h))
theorem Za1 {α0 α1 α2 α3 α4 α5 α6 α7 : Type} {φ : α0 → α1 → α2 → α3 → α4 → α5 → α6 → α7 → Prop} {L : α0 → α1 → α2 → α3 → α4 → α5 → α6 → α7 → Env} {Hs : α0 → α1 → α2 → α3 → α4 → α5 → α6 → α7 → Heap} {μ : α0 → α1 → α2 → α3 → α4 → α5 → α6 → α7 → Nat} {m : Nat} (b0 : α0) (b1 : α1) (b2 : α2) (b3 : α3) (b4 : α4) (b5 : α5) (b6 : α6) (b7 : α7) (hφ : φ b0 b1 b2 b3 b4 b5 b6 b7) (hμ : μ b0 b1 b2 b3 b4 b5 b6 b7 < m) (hL : AllF (L b0 b1 b2 b3 b4 b5 b6 b7) E) (hH : Pick (Hs b0 b1 b2 b3 b4 b5 b6 b7) H) :
    X C (Exit.then (fun ac w => ∃ (b0 : α0) (b1 : α1) (b2 : α2) (b3 : α3) (b4 : α4) (b5 : α5) (b6 : α6) (b7 : α7), φ b0 b1 b2 b3 b4 b5 b6 b7 ∧ μ b0 b1 b2 b3 b4 b5 b6 b7 < m ∧ Fits C.n C.D (L b0 b1 b2 b3 b4 b5 b6 b7) ac ∧ Inv C.w0 C.M w (Hs b0 b1 b2 b3 b4 b5 b6 b7)) Q) .normal E H := fun _ _ hf hi => ⟨b0, b1, b2, b3, b4, b5, b6, b7, hφ, hμ, hf.all hL, hi.pick hH⟩
end
end Go.Acq
namespace Go.Acq
open Go Go.RowKit
section rules
variable {C : Cx} {ops : Array Oper} {Q : Exit → Act → World → Prop} {l : List Nat} {E : Env} {H R : Heap} {i d : Nat}
def gdU (ops : Array Oper) (E : Env) : Option (Nat × Bool) → Bool
  | none => false
  | some (j, _) =>
    match ((ops[j]?).bind (·.dst)).bind (find E) with
    | some (.tuple _) => true
    | _ => false
theorem Zep {n : Nat} {D : List Deferred} {a : Act} {o : Oper} (hf : Fits n D E a) (h : gdU ops E o.guard = true) : Region.wanted o (yielded ops a.tmps) = false := by
 unfold Region.wanted
 cases hg : o.guard with
 | none => rw [hg] at h; simp [gdU] at h
 | some jw =>
  obtain ⟨j, want⟩ := jw
  rw [hg] at h
  simp only [gdU] at h
  cases hj : (ops[j]?).bind (·.dst) with
  | none => simp [hj] at h
  | some t =>
   rw [hj, Option.bind_some] at h
   cases ht : find E t with
   | none => simp [ht] at h
   | some v =>
    rw [ht] at h
    cases v with
    | tuple xs =>
     have h3 := hf.get t _ ht
     have : yielded ops a.tmps j = none := by
      unfold yielded
      rw [hj, Option.bind_some]
      rw [Array.getD_eq_getD_getElem?] at h3
      cases hq : a.tmps[t]? with
      | none => rfl
      | some u =>
       rw [hq] at h3
       have h4 : u = .tuple xs := by simpa using h3
       rw [h4]
     simp [this]
    | _ => simp at h
theorem Rj {o : Oper} (q0_ : ops[i]? = some o ∧ gdU ops E o.guard = true ∧ o.dst = some d ∧ Nat.ble (d + 1) C.n = true) (k : TO C ops Q l ((d, undef) :: E) H) : TO C ops Q (i :: l) E H := by
 obtain ⟨ho, hg, hdst, hd⟩ := q0_
 intro a w hf hi
 have hw : Region.wanted o (yielded ops a.tmps) = false := Zep hf hg
 simp only [wpOpsIn, ho, hw, Bool.false_eq_true, if_false]
 refine ⟨fun _ _ => trivial, ?_⟩
 rw [hdst]
 exact k _ _ (hf.put hd _) hi
end rules
end Go.Acq
namespace Go.Acq
open Go Go.RowKit
section
variable {α : Type} {q : IntKind} {f : α → Value} {k : Int} {z v : α}
end
section rules
variable {C : Cx} {ops : Array Oper} {Q : Exit → Act → World → Prop} {l : List Nat} {E : Env} {H R : Heap} {i d : Nat} {ty : TypeId} {Zc : String} {af : Array Edge} {g : Option (Nat × Bool)}
variable {α : Type} {q : IntKind} {f : α → Value}
theorem Gj {P : Program} {w : World} {b : Nat} {m : Array MapEntry} {c : Nat} (h : w.heap[b]? = some (.map m c)) : (getObj b).run P w = .ok (.map m c) w := by
 simp [getObj, Sem.run, h]
theorem Z3j {P : Program} {w : World} {b : Nat} {m : Array MapEntry} {c : Nat} (h : w.heap[b]? = some (.map m c)) (o' : Obj) : (setObj b o').run P w = .ok () (Go.ChangeMaps.setBlock w b o') := by
 simp [setObj, Sem.run, h, Go.ChangeMaps.setBlock]
end rules
end Go.Acq
namespace Go.Acq
open Go Go.RowKit
section rules
variable {C : Cx} {ops : Array Oper} {Q : Exit → Act → World → Prop} {l : List Nat} {E : Env} {H R : Heap} {i d : Nat} {ty : TypeId} {Zc : String} {af : Array Edge} {g : Option (Nat × Bool)}
theorem Ya {c : Code} {E' : Env} (hE : AllF E' E) (h : T C c Q E' H) : T C c Q E H := T.weak h hE.sub (Zv _)
end rules
end Go.Acq
namespace Go.Acq
open Go Go.RowKit
section rules
variable {C : Cx} {ops : Array Oper} {Q : Exit → Act → World → Prop} {l : List Nat} {E : Env} {H R : Heap} {i d : Nat} {ty : TypeId} {Zc : String} {af : Array Edge} {g : Option (Nat × Bool)}
end rules
end Go.Acq
namespace Go.Acq
open Go Go.RowKit Go.ChangeShapes Go.WideShapes Go.Deep Go.Joins
section
variable {H : Type} {enc : TypeId × Value → H} {P : Program} {w : World} {base : Nat} {spare : Nat → Bool} {held : Bool}
theorem Zcu {t e : TypeId} {fs : Array Field} {fuel : Nat} {cs : List Value} {x : DataW H × List MemPlace} (ht : P.underlying t = some (.slice e)) (he : P.underlying e = some (.struct fs))
    (hone : oneCellFields P fs = true) (hC : P.cellsOf e = fs.size) (h : DataW.trod enc P w base spare held fuel t cs = some x) :
    (cs = [.slice none 0 0] ∧ x = (.nil, [])) ∨
    ∃ (a : Addr) (len cap m : Nat) (D : Nat → DataW H) (Pl : Nat → List MemPlace), cs = [.slice (some a) len cap] ∧ base ≤ a.block ∧ len ≤ cap ∧ cap ≤ maxLen ∧ m = (if spare a.block then cap else len) ∧
      x = (.slice ((List.range len).map D) ((List.range (m - len)).map fun j => D (len + j)), MemPlace.row a (m * fs.size) ++ (List.range m).flatMap Pl) ∧
      ∀ i, i < m → ∃ (ys : List (DataW H × List MemPlace)) (n : Nat), D i = .agg (ys.map (·.1)) ∧ Pl i = ys.flatMap (·.2) ∧ ys.length = fs.size ∧
        ∀ (j : Nat) (f : Field), fs[j]? = some f → ∃ (v : Value) (y : DataW H × List MemPlace), w.cell? (a.add (i * fs.size + j)) = some v ∧ ys[j]? = some y ∧ DataW.trod enc P w base spare held n f.type [v] = some y := by
  rcases open_slice ht h with h0 | ⟨a, len, cap, m, n, D, Pl, hcs, hb, hl, hm, hmm, hx, hi⟩
  · exact .inl h0
  · refine .inr ⟨a, len, cap, m, D, Pl, hcs, hb, hl, hm, hmm, by rw [hC] at hx; exact hx, fun i him => ?_⟩
    obtain ⟨cs', hc, ht'⟩ := hi i him
    rw [hC] at hc
    obtain ⟨ys, n', hn', hy, hlen, hyl, hf⟩ := DataW.trod_struct he ht'
    obtain ⟨_, hcl, hat⟩ := World.cells?_some hc
    simp only [Prod.mk.injEq] at hy
    refine ⟨ys, n', hy.1, hy.2, hyl, fun j f hj => ?_⟩
    obtain ⟨ho, hk⟩ := hone_of hone j f hj
    have hjl : j < fs.size := (Array.getElem?_eq_some_iff.1 hj).1
    have hcell := hat j hjl
    have hv : cs'[j]? = some (cs'[j]'(by omega)) := List.getElem?_eq_getElem (by omega)
    have h1 := hf j f hj
    rw [ho, hk] at h1
    have hone' : (cs'.drop j).take 1 = [cs'[j]'(by omega)] := by
      rw [List.drop_eq_getElem_cons (by omega)]
      rfl
    rw [hone'] at h1
    have hys : ys[j]? = some (ys[j]'(by omega)) := List.getElem?_eq_getElem (by omega)
    refine ⟨_, _, ?_, hys, h1.trans hys⟩
    rw [← Go.Deep.add_add, hcell, hv]
end
section
variable {H : Type} {enc : TypeId × Value → H} {P : Program} {w : World} {base : Nat} {spare : Nat → Bool} {held : Bool}
def Nt (x : Int) : Prop := -9223372036854775808 ≤ x ∧ x ≤ 9223372036854775807
theorem Z5i {x : Int} (h : (Lit.int .i64 x).wf = true) : Nt x := by
 unfold Nt; simp [Lit.wf, IntKind.min, IntKind.max, IntKind.signed, IntKind.bits] at h; omega
theorem open_arcs {t e : TypeId} {fs : Array Field} {f0 f1 f2 : Field} {fuel : Nat} {v : Value} {x : DataW H × List MemPlace} (ht : P.underlying t = some (.slice e)) (he : P.underlying e = some (.struct fs)) (hfs : fs = #[f0, f1, f2])
    (hone : oneCellFields P fs = true) (hC : P.cellsOf e = fs.size) (k0 : P.underlying f0.type = some (.int .i64)) (k1 : P.underlying f1.type = some (.int .i64)) (k2 : P.underlying f2.type = some (.int .i64))
    (h : DataW.trod enc P w base spare held fuel t [v] = some x) :
    ∃ (b : Option Addr) (n c : Nat) (al : List Arc), v = .slice b n c ∧ RO w Zp 3 b n al ∧ n ≤ c ∧ n ≤ 9223372036854775807 ∧ ∀ a, a ∈ al → Nt a.fr ∧ Nt a.to ∧ Nt a.cap := by
  rcases Zcu ht he hone hC h with ⟨hcs, _⟩ | ⟨a, l, c, m, D, Pl, hcs, _, hl, hm, hmm, _, hi⟩
  · injection hcs with h1 _
    exact ⟨none, 0, 0, [], h1, Z6r w (fun _ => rfl), Nat.le_refl _, by omega, fun y hy => by cases hy⟩
  · injection hcs with h1 _
    have hlm : l ≤ m := by rw [hmm]; split <;> omega
    have key : ∀ i, i < l → ∃ q : Arc, w.cell? (a.add (i * 3 + 0)) = some (.int .i64 q.fr) ∧ w.cell? (a.add (i * 3 + 1)) = some (.int .i64 q.to) ∧ w.cell? (a.add (i * 3 + 2)) = some (.int .i64 q.cap) ∧ Nt q.fr ∧ Nt q.to ∧ Nt q.cap := by
      intro i hil
      obtain ⟨ys, n, _, _, _, hf⟩ := hi i (by omega)
      subst hfs
      obtain ⟨v0, y0, c0, _, t0⟩ := hf 0 f0 rfl
      obtain ⟨v1, y1, c1, _, t1⟩ := hf 1 f1 rfl
      obtain ⟨v2, y2, c2, _, t2⟩ := hf 2 f2 rfl
      obtain ⟨n0, e0, _, w0⟩ := DataW.trod_int k0 t0
      obtain ⟨n1, e1, _, w1⟩ := DataW.trod_int k1 t1
      obtain ⟨n2, e2, _, w2⟩ := DataW.trod_int k2 t2
      injection e0 with e0 _; injection e1 with e1 _; injection e2 with e2 _
      subst e0; subst e1; subst e2
      exact ⟨⟨n0, n1, n2⟩, c0, c1, c2, Z5i w0, Z5i w1, Z5i w2⟩
    let g : Nat → Arc := fun i => if hil : i < l then Classical.choose (key i hil) else default
    have hg : ∀ i (hil : i < l), g i = Classical.choose (key i hil) := fun i hil => by simp only [g, dif_pos hil]
    refine ⟨some a, l, c, (List.range l).map g, h1, ⟨by simp, (fun e => by cases e), arcC_len, fun o q ho hq x hx => ?_⟩, hl, by unfold maxLen at hm; omega, fun y hy => ?_⟩
    · simp only [List.length_map, List.length_range] at ho
      have hs := Classical.choose_spec (key o ho)
      rw [← hg o ho] at hs
      have hxo : x = g o := by
        rw [List.getElem?_map, List.getElem?_range ho] at hx
        simpa using hx.symm
      subst hxo
      rcases (show q = 0 ∨ q = 1 ∨ q = 2 by omega) with rfl | rfl | rfl
      · exact hs.1
      · exact hs.2.1
      · exact hs.2.2.1
    · obtain ⟨i, hil, rfl⟩ := List.mem_map.1 hy
      have hil := List.mem_range.1 hil
      have hs := Classical.choose_spec (key i hil)
      rw [← hg i hil] at hs
      exact hs.2.2.2
end
end Go.Acq
namespace Go.Acq
open Go Go.RowKit Go.ChangeShapes Go.WideShapes Go.Deep Go.Joins
theorem i64ok_wf {x : Int} (h : (Lit.int .i64 x).wf = true) : i64ok x := by simp [Lit.wf, IntKind.min, IntKind.max, IntKind.signed, IntKind.bits] at h; omega
theorem u8ok_wf {x : Int} (h : (Lit.int .u8 x).wf = true) : u8ok x := by simp [Lit.wf, IntKind.min, IntKind.max, IntKind.signed, IntKind.bits] at h; omega
section
variable {H : Type} {enc : TypeId × Value → H} {P : Program} {w : World} {base : Nat} {spare : Nat → Bool} {held : Bool}
end
end Go.Acq
namespace Go.Acq
open Go Go.RowKit
abbrev SM := Option Addr × Nat × Nat
def smC (m : SM) : List Value := [.slice m.1 m.2.1 m.2.2]
structure RW {α : Type} (w : World) (M : List Nat) (f : α → List Value) (s : Nat) (base : Option Addr) (n c : Nat) (ms : List SM) (xss : List (List α)) : Prop where
  rs : RS w M smC 1 base n c ms
  eqlen : ms.length = xss.length
  row : ∀ i, i < ms.length → RS w M f s (ms.getD i default).1 (ms.getD i default).2.1 (ms.getD i default).2.2 (xss.getD i [])
section
variable {α : Type} {w w0 : World} {M M' : List Nat} {f : α → List Value} {s n c : Nat} {base : Option Addr} {ms : List SM} {xss : List (List α)} {H Hm R : Heap}
theorem RW.len (h : RW w M f s base n c ms xss) : xss.length = n := by rw [← h.eqlen]; exact h.rs.len
theorem RW.cap (h : RW w M f s base n c ms xss) : n ≤ c := h.rs.cap
theorem RW.nil (w : World) (M : List Nat) : RW w M f s none 0 0 [] ([] : List (List α)) := ⟨RS.nil _ _ (fun _ => rfl), rfl, fun i hi => by simp at hi⟩
theorem RW.mono (h : RW w0 M f s base n c ms xss) (hi : Inv w0 M w H) : RW w [] f s base n c ms xss := ⟨h.rs.mono hi, h.eqlen, fun i hl => (h.row i hl).mono hi⟩
theorem RW.monoM (h : RW w0 M f s base n c ms xss) (hs : 0 < s) (hi : Inv w0 M w H) (hp : List.Perm H (Hm ++ R)) (hM : Hm.filterMap (·.1) = M') : RW w M' f s base n c ms xss :=
 ⟨h.rs.monoM (by decide) hi hp hM, h.eqlen, fun i hl => (h.row i hl).monoM hs hi hp hM⟩
theorem Z7y {α : Type} {xs : List α} {d : α} {i k : Nat} (h : i < k) : (xs.take k).getD i d = xs.getD i d := by
 simp [List.getD_eq_getElem?_getD, List.getElem?_take, h]
theorem Z8i {α : Type} {xs : List α} {d : α} {i k : Nat} : (xs.drop k).getD i d = xs.getD (k + i) d := by
 simp [List.getD_eq_getElem?_getD]
theorem RW.take (h : RW w M f s base n c ms xss) {p : Int} (hp : 0 ≤ p ∧ p ≤ (xss.length : Int)) : RW w M f s base p.toNat c (ms.take p.toNat) (xss.take p.toNat) :=
 ⟨h.rs.take (by rw [h.eqlen]; exact hp), by rw [List.length_take, List.length_take, h.eqlen], fun i hi => by
  rw [List.length_take] at hi
  rw [Z7y (by omega), Z7y (by omega)]; exact h.row i (by omega)⟩
theorem RW.drop (h : RW w M f s base n c ms xss) {p : Int} (hp : 0 ≤ p ∧ p ≤ (xss.length : Int)) : RW w M f s (Kl base p.toNat c 1) (n - p.toNat) (c - p.toNat) (ms.drop p.toNat) (xss.drop p.toNat) :=
 ⟨h.rs.drop (by rw [h.eqlen]; exact hp), by rw [List.length_drop, List.length_drop, h.eqlen], fun i hi => by
  rw [List.length_drop] at hi
  rw [Z8i, Z8i]; exact h.row _ (by omega)⟩
theorem RW.at (h : RW w M f s base n c ms xss) {p : Int} (hp : inb p xss.length) : RS w M f s (ms.getD p.toNat default).1 (ms.getD p.toNat default).2.1 (ms.getD p.toNat default).2.2 (xss.getD p.toNat []) :=
 h.row _ (by rw [h.eqlen]; exact Nj hp)
theorem RW.inb (h : RW w M f s base n c ms xss) {p : Int} (hp : inb p xss.length) : inb p ms.length := by rw [h.eqlen]; exact hp
end
section rules
variable {C : Cx} {ops : Array Oper} {Q : Exit → Act → World → Prop} {l : List Nat} {E : Env} {H R : Heap} {i d : Nat} {ty : TypeId} {Zc : String} {af : Array Edge} {g : Option (Nat × Bool)}
end rules
open Go.ChangeShapes Go.WideShapes Go.Deep Go.Joins
section
variable {H : Type} {enc : TypeId × Value → H} {P : Program} {w : World} {base : Nat} {spare : Nat → Bool} {held : Bool}
end
end Go.Acq
namespace Go.Acq
open Go Go.RowKit
end Go.Acq
namespace Go.Acq
open Go Go.RowKit
end Go.Acq
namespace Go.Acq
open Go Go.RowKit Go.ChangeShapes Go.WideShapes Go.Deep Go.Joins
section
variable {H : Type} {enc : TypeId × Value → H} {P : Program} {w : World} {base : Nat} {spare : Nat → Bool} {held : Bool}
end
end Go.Acq
namespace Go.Acq
open Go Go.RowKit
abbrev ids (H : Heap) : List Nat := H.filterMap (·.1)
abbrev mkD (r : Nat) : Deferred := { target := .collected r, args := #[] }
abbrev mkO : Obj := .deferred (some [])
def markH : List Nat → Heap
  | [] => []
  | r :: ms => (some r, mkO) :: markH ms
section
variable {w0 w w' w'' : World} {M M' : List Nat} {H H' Hm R : Heap} {b : Nat} {o o' : Obj}
theorem Pick.skip {p : Option Nat × Obj} (h : Pick H' H) : Pick H' (p :: H) := by
 obtain ⟨S, ns, hn, hS⟩ := h
 refine ⟨p :: S, ns, hn, ?_⟩
 rw [List.cons_append]
 exact (List.Perm.cons p hS).trans List.perm_middle.symm
theorem Inv.put (h : Inv w0 M w ((some b, o) :: R)) (o' : Obj) : Inv w0 M (w.putObj b o') ((some b, o') :: R) :=
 h.upd (Take.head _ _) rfl rfl rfl World.putObj_size (World.putObj_heap_same (h.lt (.head _))) (fun _ hk => World.putObj_heap_other hk)
theorem HB.monoM {cs : List Value} (h : HB w0 M b cs) (hne : cs ≠ []) (hi : Inv w0 M w H) (hp : List.Perm H (Hm ++ R)) (hM : Hm.filterMap (·.1) = M') : HB w M' b cs :=
 ⟨fun j v hj => hi.cell_old (h.has j v hj) h.far, fun hm => by
  subst hM
  obtain ⟨o, ho⟩ := Gl hm
  obtain ⟨v, cs', rfl⟩ := List.exists_cons_of_ne_nil hne
  have h0 := h.has 0 v rfl
  have hb : b < w0.heap.size := by
   unfold World.cell? at h0
   split at h0
   · rename_i he; exact (Array.getElem?_eq_some_iff.1 he).1
   · cases h0
  rcases hi.low b o ((List.Perm.mem_iff hp).2 (List.mem_append_left _ ho)) with hl | hl
  · omega
  · exact h.far hl⟩
end
section rules
variable {C : Cx} {ops : Array Oper} {Q : Exit → Act → World → Prop} {l : List Nat} {E : Env} {H R : Heap} {i d : Nat} {ty : TypeId} {Zc : String} {af : Array Edge} {g : Option (Nat × Bool)}
end rules
abbrev recO (fn : FuncId) (tmps : Array Value) (ps : Array Tmp) (assign body : Code) (df : Nat) (st : LoopState) (pd : Option Code) : Obj :=
  .loop { state := st, pending := pd, fn, tmps, params := ps, assign, body, defers := df }
def RQ {S X : Type} (J : S ⊕ X → Heap → Prop) (jmp : X → Code) (r : S ⊕ X) (w0 : World) (M : List Nat) : Exit → Act → World → Prop
  | .normal, _, w => ∃ s Hs, r = .inl s ∧ J (.inl s) Hs ∧ Inv w0 M w Hs
  | .ret, _, w => ∃ x Hs, r = .inr x ∧ jmp x = .ret ∧ J (.inr x) Hs ∧ Inv w0 M w Hs
  | .exit id, _, w => ∃ x Hs, r = .inr x ∧ jmp x = .exit id ∧ J (.inr x) Hs ∧ Inv w0 M w Hs
  | _, _, _ => False
def putPs : List Tmp → List Value → Env → Env
  | [], _, E => E
  | _ :: _, [], E => E
  | p :: ps, v :: vs, E => putPs ps vs ((p, v) :: E)
theorem Z87 {n : Nat} : ∀ {ps : List Tmp} {vs : List Value} {E : Env} {tmps : Array Value} (_ : ps.all (fun p => Nat.ble (p + 1) n) = true), Fits n [] E { tmps, defers := [] } →
    Fits n [] (putPs ps vs E) { tmps := (ps.zip vs).foldl (fun tmps (t, a) => tmps.setIfInBounds t a) tmps, defers := [] }
  | [], _, _, _, _, h => h
  | _ :: _, [], _, _, _, h => h
  | p :: ps, v :: vs, E, tmps, hb, h => by
    have hb' : Nat.ble (p + 1) n = true ∧ (ps.all fun p => Nat.ble (p + 1) n) = true := by simpa only [List.all_cons, Bool.and_eq_true] using hb
    have := h.put hb'.1 v
    exact Z87 (ps := ps) (vs := vs) hb'.2 this
section control
variable {C : Cx} {Q : Exit → Act → World → Prop} {E : Env} {H : Heap}
end control
section ends
variable {C : Cx} {E : Env} {H H' N : Heap}
end ends
end Go.Acq
namespace Go.Acq
open Go Go.RowKit
theorem Z94 {C : Cx} {Q : Exit → Act → World → Prop} {e : Exit} {E : Env} {H H' : Heap} (h : H' = H) (k : X C Q e E H) : X C Q e E H' := by rw [h]; exact k
end Go.Acq
namespace Go.Acq
open Go Go.RowKit
theorem Jd {C : Cx} {P : Program} {fn : Func} {R : Ending → World → Prop} {E : Env} {H : Heap} (h : X C (bodyPost P fn R) .ret E H) : X C (bodyPost P fn R) .normal E H := h
end Go.Acq
namespace Go.Acq
open Go Go.RowKit
section
variable {C : Cx} {ops : Array Oper} {Q : Exit → Act → World → Prop} {l l2 : List Nat} {E E' : Env} {H H' : Heap}
def JQ (C : Cx) (Q : Exit → Act → World → Prop) (d : Nat) (φ : Bool → Prop) (E : Env) (H : Heap) : Exit → Act → World → Prop
  | .normal, a, w => ∃ b, φ b ∧ Fits C.n C.D ((d, .bool b) :: E) a ∧ Inv C.w0 C.M w H
  | e, a, w => Q e a w
theorem TO.join (l1 l2 : List Nat) (hl : l1 ++ l2 = l) (d : Nat) (φ : Bool → Prop) (E' : Env) (h1 : TO C ops (JQ C Q d φ E' H) l1 E H) (h2 : ∀ b, φ b → TO C ops Q l2 ((d, .bool b) :: E') H) : TO C ops Q l E H := by
 subst hl
 intro a w hf hi
 refine Ry (Q' := JQ C Q d φ E' H) (fun e a w hne h => ?_) (fun a w h => ?_) l1 a w (h1 a w hf hi)
 · cases e <;> first | exact absurd rfl hne | exact h
 ·
  obtain ⟨b, hb, hfit, hinv⟩ := h
  exact h2 b hb a w hfit hinv
theorem Lb {d : Nat} {φ : Bool → Prop} {b : Bool} (h : φ b) (hE : AllF ((d, .bool b) :: E') E) : X C (JQ C Q d φ E' H) .normal E H := fun _ _ hf hi => ⟨b, h, hf.weak hE.sub, hi⟩
end
end Go.Acq
namespace Go.Acq
open Go Go.RowKit
def Gb (P : Program) (K : World → Prop) (w : World) (v : Value) : Result Next → Prop
  | .ok (.value u) w' => w' = w ∧ u = v
  | .ok (.enter f args) w' => w' = w ∧ Calls P f args w (fun e w'' => e = .returned v ∧ K w'')
  | _ => False
def Kb (P : Program) (ops : Array Oper) (K : World → Prop) (Qn : Act → Prop) : List Nat → Act → Prop
  | [], a => Qn a
  | i :: rest, a => match ops[i]? with
    | none => Kb P ops K Qn rest a
    | some o => (∀ c, o.op ≠ .defer c) ∧ (∀ cs b, o.op ≠ .select cs b) ∧
        if Region.wanted o (yielded ops a.tmps) = true then ∃ v, (∀ w, K w → Gb P K w v ((execOp a.eval o).run P w)) ∧ Kb P ops K Qn rest (a.put o.dst v)
        else Kb P ops K Qn rest (a.put o.dst undef)
def TQ (C : Cx) (ops : Array Oper) (Qn : Act → Prop) (l : List Nat) (E : Env) (H : Heap) : Prop := ∀ a, Fits C.n C.D E a → Kb C.P ops (fun w => Inv C.w0 C.M w H) Qn l a
def seqB (ops : Array Oper) (m : Nat) : Bool := (List.range m).all fun i => match ops[i]? with
  | none => false
  | some o => (match o.dst with | some d => (List.range m).all fun j => Nat.beq j i || !(Yj ops j == some d) | none => false) &&
      (o.looksAt ops).all fun t => (List.range m).all fun j => !(Yj ops j == some t) || (Nat.blt j i && Vk ops ops.size i j)
section
variable {C : Cx} {ops : Array Oper} {Q : Exit → Act → World → Prop} {E : Env} {H : Heap}
def Wr (ops : Array Oper) (vs : Nat → Value) (a : Act) : Nat → Act
  | 0 => a
  | i + 1 => (Wr ops vs a i).put (Yj ops i) (vs i)
structure DoneQ (ops : Array Oper) (m : Nat) (vs : Nat → Value) (a0 : Act) (done : Nat → Bool) (a : Act) : Prop where
  size : a.tmps.size = a0.tmps.size
  defers : a.defers = a0.defers
  has : ∀ j d, j < m → done j = true → Yj ops j = some d → d < a0.tmps.size → a.tmps[d]? = some (vs j)
  old : ∀ t, (∀ j, j < m → done j = true → Yj ops j ≠ some t) → a.tmps[t]? = a0.tmps[t]?
theorem DoneQ.put {m : Nat} {vs : Nat → Value} {a0 a : Act} {done : Nat → Bool} {i d : Nat} (h : DoneQ ops m vs a0 done a) (hi : i < m) (hd : Yj ops i = some d) (hu : ∀ j, j < m → j ≠ i → Yj ops j ≠ some d) :
    DoneQ ops m vs a0 (fun q => if q = i then true else done q) (a.put (some d) (vs i)) := by
  refine ⟨by simpa [Act.put] using h.size, h.defers, fun j e hj hdj hs hlt => ?_, fun t ht => ?_⟩
  · simp only [Act.put, Array.getElem?_setIfInBounds]
    by_cases c : j = i
    · subst c
      rw [hd] at hs; injection hs with hs; subst hs
      rw [if_pos rfl, if_pos (by rw [h.size]; exact hlt)]
    · have hne : d ≠ e := by rintro rfl; exact hu j hj c hs
      rw [if_neg hne]
      exact h.has j e hj (by simpa [c] using hdj) hs hlt
  · simp only [Act.put, Array.getElem?_setIfInBounds]
    have hne : d ≠ t := by rintro rfl; exact ht i hi (by simp) hd
    rw [if_neg hne]
    exact h.old t fun j hj hdj => ht j hj (by by_cases c : j = i <;> simp [c, hdj])
theorem eval_tmp {a a' : Act} {t : Nat} (h : a.tmps[t]? = a'.tmps[t]?) : a.eval (.tmp t) = a'.eval (.tmp t) := by
 simp [Act.eval, Array.getD_eq_getD_getElem?, h]
theorem Z5s {m : Nat} {vs : Nat → Value} {a0 a a' : Act} {done done' : Nat → Bool} {o : Oper} (h : DoneQ ops m vs a0 done a) (h' : DoneQ ops m vs a0 done' a')
    (hl : ∀ t, t ∈ o.looksAt ops → ∀ j, j < m → Yj ops j = some t → done j = true ∧ done' j = true) :
    (∀ x, x ∈ o.op.operands → a.eval x = a'.eval x) ∧ Region.wanted o (yielded ops a.tmps) = Region.wanted o (yielded ops a'.tmps) := by
  have key : ∀ t : Nat, t ∈ o.looksAt ops → a.tmps[t]? = a'.tmps[t]? := by
    intro t ht
    by_cases c : ∃ j, j < m ∧ Yj ops j = some t
    · obtain ⟨j, hj, hs⟩ := c
      obtain ⟨d1, d2⟩ := hl t ht j hj hs
      by_cases hlt : t < a0.tmps.size
      · rw [h.has j t hj d1 hs hlt, h'.has j t hj d2 hs hlt]
      · rw [Array.getElem?_eq_none (by rw [h.size]; omega), Array.getElem?_eq_none (by rw [h'.size]; omega)]
    · have hn : ∀ j, j < m → Yj ops j ≠ some t := fun j hj hs => c ⟨j, hj, hs⟩
      rw [h.old t fun j hj _ => hn j hj, h'.old t fun j hj _ => hn j hj]
  refine ⟨fun x hx => ?_, ?_⟩
  · cases x with
    | tmp t => exact eval_tmp (key t (List.mem_append_left _ (List.mem_filterMap.2 ⟨.tmp t, by simpa using hx, rfl⟩)))
    | const v => rfl
    | global g => rfl
    | func f => rfl
  · unfold Region.wanted
    cases hg : o.guard with
    | none => rfl
    | some gw =>
      obtain ⟨g, want⟩ := gw
      have : yielded ops a.tmps g = yielded ops a'.tmps g := by
        unfold yielded
        cases ht : (ops[g]?).bind (·.dst) with
        | none => rfl
        | some t =>
          have := key t (List.mem_append_right _ (by rw [hg]; simp [ht]))
          simp only [Option.bind_some, this]
      simp only [this]
theorem Z8w {K : World → Prop} {Qn : Act → Prop} {vs0 : Nat → Value} {a0 : Act} : ∀ (k i : Nat), (∀ j, j < i + k → ∃ o, ops[j]? = some o) → Kb C.P ops K Qn (List.range' i k) (Wr ops vs0 a0 i) →
    ∃ vs : Nat → Value, (∀ j, j < i → vs j = vs0 j) ∧ (∀ j o, i ≤ j → j < i + k → ops[j]? = some o → (∀ c, o.op ≠ .defer c) ∧ (∀ cs b, o.op ≠ .select cs b) ∧
      ((Region.wanted o (yielded ops (Wr ops vs a0 j).tmps) = true ∧ ∀ w, K w → Gb C.P K w (vs j) ((execOp (Wr ops vs a0 j).eval o).run C.P w)) ∨ (Region.wanted o (yielded ops (Wr ops vs a0 j).tmps) = false ∧ vs j = undef))) ∧ Qn (Wr ops vs a0 (i + k))
  | 0, i, _, h => ⟨vs0, fun _ _ => rfl, fun j o h1 h2 => by omega, h⟩
  | k + 1, i, hops, h => by
    obtain ⟨o, ho⟩ := hops i (by omega)
    rw [List.range'_succ] at h
    simp only [Kb, ho] at h
    obtain ⟨hd, hs, h⟩ := h
    have hslot : Yj ops i = o.dst := by simp [Yj, ho]
    obtain ⟨v, hv, hrest⟩ : ∃ v, ((Region.wanted o (yielded ops (Wr ops vs0 a0 i).tmps) = true ∧ ∀ w, K w → Gb C.P K w v ((execOp (Wr ops vs0 a0 i).eval o).run C.P w)) ∨ (Region.wanted o (yielded ops (Wr ops vs0 a0 i).tmps) = false ∧ v = undef)) ∧
        Kb C.P ops K Qn (List.range' (i + 1) k) ((Wr ops vs0 a0 i).put o.dst v) := by
      by_cases hw : Region.wanted o (yielded ops (Wr ops vs0 a0 i).tmps) = true
      · rw [if_pos hw] at h
        obtain ⟨v, h1, h2⟩ := h
        exact ⟨v, .inl ⟨hw, h1⟩, h2⟩
      · rw [if_neg hw] at h
        exact ⟨undef, .inr ⟨by simpa using hw, rfl⟩, h⟩
    have hcongr : ∀ (vs' : Nat → Value), (∀ j, j < i → vs' j = vs0 j) → ∀ j, j ≤ i → Wr ops vs' a0 j = Wr ops vs0 a0 j := by
      intro vs' hvs j
      induction j with
      | zero => intro _; rfl
      | succ j ih => intro hj; simp only [Wr]; rw [ih (by omega), hvs j (by omega)]
    let vs1 : Nat → Value := fun j => if j = i then v else vs0 j
    have e1 : Wr ops vs1 a0 (i + 1) = (Wr ops vs0 a0 i).put o.dst v := by
      simp only [Wr]
      rw [hcongr vs1 (fun j hj => by simp only [vs1]; rw [if_neg (by omega)]) i (Nat.le_refl _), hslot]
      simp only [vs1, if_true]
    rw [← e1] at hrest
    obtain ⟨vs, g1, g2, g3⟩ := Z8w k (i + 1) (fun j hj => hops j (by omega)) hrest
    have gi : vs i = v := by rw [g1 i (by omega)]; simp only [vs1, if_true]
    have gl : ∀ j, j < i → vs j = vs0 j := fun j hj => by rw [g1 j (by omega)]; simp only [vs1]; rw [if_neg (by omega)]
    refine ⟨vs, gl, fun j o' h1 h2 ho' => ?_, by rw [show i + (k + 1) = i + 1 + k by omega]; exact g3⟩
    by_cases c : j = i
    · subst c
      rw [ho] at ho'; injection ho' with ho'; subst ho'
      rw [hcongr vs gl j (Nat.le_refl _), gi]
      exact ⟨hd, hs, hv⟩
    · exact g2 j o' (by omega) (by omega) ho'
theorem Z65 {m : Nat} {vs : Nat → Value} {a0 : Act} (hu : ∀ i, i < m → ∃ d, Yj ops i = some d ∧ ∀ j, j < m → j ≠ i → Yj ops j ≠ some d) : ∀ i, i ≤ m → DoneQ ops m vs a0 (fun q => decide (q < i)) (Wr ops vs a0 i)
 | 0, _ => ⟨rfl, rfl, fun j d _ h => by simp at h, fun t _ => rfl⟩
 | i + 1, hi => by
  obtain ⟨d, hd, hud⟩ := hu i (by omega)
  have := (Z65 (vs := vs) (a0 := a0) hu i (by omega)).put (by omega) hd hud
  simp only [Wr]
  rw [hd]
  have e : (fun q : Nat => decide (q < i + 1)) = fun q => if q = i then true else decide (q < i) := by
   funext q
   by_cases c : q = i
   · simp [c]
   ·
    have : (q < i + 1) ↔ q < i := by omega
    simp [c, this]
  rw [e]; exact this
theorem Gz {id : Nat} (m : Nat) (ll : List Nat) (hll : List.range m = ll) (hm : C.P.follows .mixedOrders = true) (hb : Gd ops = true) (ht : Lr ops m = true) (hms : Nat.ble m ops.size = true) (hs : seqB ops m = true)
    (k : TQ C ops (fun a => ∀ w, Inv C.w0 C.M w H → wpOpsIn (FW C.ρ) 0 C.P ops Q (List.range' m (ops.size - m)) a w) ll E H) : T C (.region id ops true) Q E H := by
  subst hll
  intro a0 w hf hi
  have hms' := Nat.le_of_ble_eq_true hms
  have hseq : ∀ i, i < m → ∃ o d, ops[i]? = some o ∧ Yj ops i = some d ∧ (∀ j, j < m → j ≠ i → Yj ops j ≠ some d) ∧ ∀ t, t ∈ o.looksAt ops → ∀ j, j < m → Yj ops j = some t → j < i ∧ Vk ops ops.size i j = true := by
    intro i him
    have h1 := List.all_eq_true.1 hs i (List.mem_range.2 him)
    have ho : ops[i]? = some ops[i] := Array.getElem?_eq_getElem (by omega)
    rw [ho] at h1
    simp only [Bool.and_eq_true] at h1
    cases hd : (ops[i]).dst with
    | none => rw [hd] at h1; simp at h1
    | some d =>
      rw [hd] at h1
      refine ⟨ops[i], d, ho, by simp [Yj, ho, hd], fun j hj hji he => ?_, fun t htl j hj hsj => ?_⟩
      · have h2 := List.all_eq_true.1 h1.1 j (List.mem_range.2 hj)
        simp only [Bool.or_eq_true] at h2
        rcases h2 with h2 | h2
        · exact hji (Nat.eq_of_beq_eq_true h2)
        · rw [he] at h2; simp at h2
      · have h2 := List.all_eq_true.1 (List.all_eq_true.1 h1.2 t htl) j (List.mem_range.2 hj)
        rw [hsj] at h2
        simpa using h2
  have hu : ∀ i, i < m → ∃ d, Yj ops i = some d ∧ ∀ j, j < m → j ≠ i → Yj ops j ≠ some d := fun i h => by
    obtain ⟨_, d, _, h1, h2, _⟩ := hseq i h; exact ⟨d, h1, h2⟩
  have hk := k a0 hf
  rw [List.range_eq_range'] at hk
  obtain ⟨vs, -, hstep, hend⟩ := Z8w (C := C) (vs0 := fun _ => undef) (a0 := a0) m 0 (fun j hj => by obtain ⟨o, _, ho, _⟩ := hseq j (by omega); exact ⟨o, ho⟩) hk
  rw [Nat.zero_add] at hend
  refine Z84 (m := m) (Jp := fun done a w => DoneQ ops m vs a0 done a ∧ Inv C.w0 C.M w H) hm hb ht hms' ?_ ?_ ⟨⟨rfl, rfl, fun j d _ h => by simp at h, fun t _ => rfl⟩, hi.ofHeap rfl rfl rfl rfl⟩
  · rintro done i o a w1 him ho hdi hcl hafter _ ⟨hD, hinv⟩
    obtain ⟨o', d, ho', hsl, hud, hlook⟩ := hseq i him
    rw [ho] at ho'; injection ho' with ho'; subst ho'
    have hdst : o.dst = some d := by simpa [Yj, ho] using hsl
    have hdone : ∀ j, Vk ops ops.size i j = true → done j = true := fun j hj => Nw hcl _ i j hj (fun o' ho' => by rw [ho] at ho'; injection ho' with ho'; subst ho'; exact hafter)
    obtain ⟨hev, hwt⟩ := Z5s hD (Z65 hu i (by omega)) (o := o) (fun t htl j hj hsj => by
      obtain ⟨h1, h2⟩ := hlook t htl j hj hsj
      exact ⟨hdone j h2, by simpa using h1⟩)
    obtain ⟨hnd, hns, hval⟩ := hstep i o (by omega) (by omega) ho
    have hex := execOp_congr o hns hev
    have hput := hD.put him hsl hud
    unfold wpOpIn
    rw [ho]
    simp only
    rcases hval with ⟨hw, hq⟩ | ⟨hw, hq⟩
    · rw [hwt, hw]
      simp only [if_true]
      refine ⟨fun _ _ => trivial, ?_⟩
      rw [Oper.semAt_eq _ _ _ hnd, hex]
      have hq := hq w1 hinv
      generalize (execOp (Wr ops vs a0 i).eval o).run C.P w1 = r at hq
      cases r with
      | ok x w' =>
        cases x <;> simp only [Gb] at hq
        case value u =>
          obtain ⟨rfl, rfl⟩ := hq
          show _ ∧ _
          rw [hdst]
          exact ⟨hput, hinv⟩
        case enter f args =>
          obtain ⟨rfl, hc⟩ := hq
          refine ⟨by simp [FW], callsIn_FW.2 (Calls.mono hc ?_)⟩
          rintro e w'' ⟨rfl, hK⟩
          show _ ∧ _
          rw [hdst]
          exact ⟨hput, hK⟩
      | halt x w' => simp only [Gb] at hq
    · rw [hwt, hw]
      simp only [Bool.false_eq_true, if_false]
      refine ⟨fun _ _ => trivial, ?_⟩
      rw [hdst, ← hq]
      exact ⟨hput, hinv⟩
  · rintro done a w1 hall ⟨hD, hinv⟩
    have hA := Z65 (vs := vs) (a0 := a0) hu m (Nat.le_refl _)
    have ea : a = Wr ops vs a0 m := by
      have e1 : a.tmps = (Wr ops vs a0 m).tmps := by
        apply Array.ext_getElem?
        intro t
        by_cases c : ∃ j, j < m ∧ Yj ops j = some t
        · obtain ⟨j, hj, hsj⟩ := c
          by_cases hlt : t < a0.tmps.size
          · rw [hD.has j t hj (hall j hj) hsj hlt, hA.has j t hj (by simpa using hj) hsj hlt]
          · rw [Array.getElem?_eq_none (by rw [hD.size]; omega), Array.getElem?_eq_none (by rw [hA.size]; omega)]
        · have hn : ∀ j, j < m → Yj ops j ≠ some t := fun j hj hsj => c ⟨j, hj, hsj⟩
          rw [hD.old t fun j hj _ => hn j hj, hA.old t fun j hj _ => hn j hj]
      have e2 : a.defers = (Wr ops vs a0 m).defers := by rw [hD.defers, hA.defers]
      cases a; simp_all
    rw [ea]
    exact hend w1 hinv
theorem TQ.tail {m k : Nat} (l : List Nat) {H0 : Heap} (q0_ : List.range' m k = l ∧ H0 = H) (h : TO C ops Q l E H) : TQ C ops (fun a => ∀ w, Inv C.w0 C.M w H → wpOpsIn (FW C.ρ) 0 C.P ops Q (List.range' m k) a w) [] E H0 := have ⟨hl, hH⟩ := q0_; fun a hf w hi => by rw [hl]; exact h a w hf hi
end
end Go.Acq
namespace Go.Acq
open Go Go.RowKit
section rules
variable {C : Cx} {ops : Array Oper} {Q : Act → Prop} {l : List Nat} {E : Env} {H R : Heap} {i d : Nat} {ty : TypeId} {Zc : String} {af : Array Edge} {g : Option (Nat × Bool)}
theorem Jm {op : Op} {v : Value} (ho : ops[i]? = some ⟨some d, op, ty, Zc, af, g⟩) (hg : Zk ops E g = true) (hd : Nat.ble (d + 1) C.n = true) (hnd : ∀ c, op ≠ .defer c)
    (hr : ∀ a w, Fits C.n C.D E a → Inv C.w0 C.M w H → (execOp a.eval ⟨some d, op, ty, Zc, af, g⟩).run C.P w = .ok (.value v) w)
    (k : TQ C ops Q l ((d, v) :: E) H) (hns : ∀ cs b, op ≠ .select cs b := by simp) : TQ C ops Q (i :: l) E H := by
  intro a hf
  simp only [Kb, ho]
  refine ⟨hnd, hns, ?_⟩
  rw [if_pos (Z1p hf hg)]
  exact ⟨v, fun w hi => by rw [hr a w hf hi]; exact ⟨rfl, rfl⟩, k _ (hf.put hd v)⟩
theorem Yp {o : Oper} (q0_ : ops[i]? = some o ∧ gdN ops E o.guard = true ∧ o.dst = some d ∧ Nat.ble (d + 1) C.n = true) (k : TQ C ops Q l ((d, undef) :: E) H) (hnd : ∀ c, o.op ≠ .defer c := by simp) (hns : ∀ cs b, o.op ≠ .select cs b := by simp) : TQ C ops Q (i :: l) E H := by
 obtain ⟨ho, hg, hdst, hd⟩ := q0_
 intro a hf
 simp only [Kb, ho]
 refine ⟨hnd, hns, ?_⟩
 rw [if_neg (by rw [Z6b hf hg]; simp), hdst]
 exact k _ (hf.put hd _)
theorem Je {t : Nat} {b b' : Bool} (ht : find E t = some (.bool b)) (hb : b = b') (k : TQ C ops Q l ((t, .bool b') :: E) H) : TQ C ops Q l E H := by
 subst hb
 intro a hf
 refine k a ⟨hf.size, hf.defers, fun u v hu => ?_⟩
 rw [Uu] at hu
 by_cases e : t = u
 · subst e; rw [if_pos rfl] at hu; injection hu with hu; subst hu; exact hf.get t _ ht
 · rw [if_neg e] at hu; exact hf.get u v hu
theorem Z3v {f : FuncId} {xs : Array Operand} {at' : Array TypeId} {vs : List Value} {v : Value} {Post : Value → Heap → Prop} (hF : Zz C.P f = true)
    (q0_ : ops[i]? = some ⟨some d, .call ⟨.value (.func f), xs, at'⟩, ty, Zc, af, g⟩ ∧ Zk ops E g = true ∧ Nat.ble (d + 1) C.n = true ∧ Wx E xs.toList = some vs)
    (hc : ∀ w, Inv C.w0 C.M w H → Fnc C.P f vs.toArray w [] Post) (hv : ∀ u N, Post u N → u = v) (k : TQ C ops Q l ((d, v) :: E) H) : TQ C ops Q (i :: l) E H := by
  obtain ⟨ho, hg, hd, hx⟩ := q0_
  intro a hf
  simp only [Kb, ho]
  refine ⟨by simp, by simp, ?_⟩
  rw [if_pos (Z1p hf hg)]
  refine ⟨v, fun w hi => ?_, k _ (hf.put hd v)⟩
  have e1 : xs.map a.eval = vs.toArray := by apply Array.ext'; simpa using Jh hf hx
  have : (execOp a.eval ⟨some d, .call ⟨.value (.func f), xs, at'⟩, ty, Zc, af, g⟩).run C.P w = .ok (.enter f vs.toArray) w := by
    simp [execOp, resolve, Deferred.ofValue, invoke, Act.eval, e1, Kr hF]
  rw [this]
  refine ⟨rfl, Calls.mono (hc w hi) ?_⟩
  rintro e w' ⟨u, N, hP, rfl, hN⟩
  exact ⟨by rw [hv u N hP], (hi.join0 hN).perm List.perm_append_comm |>.left⟩
theorem TQ.move {x : Operand} {v : Value} (q0_ : ops[i]? = some ⟨some d, .move x, ty, Zc, af, g⟩ ∧ Zk ops E g = true ∧ Nat.ble (d + 1) C.n = true ∧ ev E x = some v)
    (k : TQ C ops Q l ((d, v) :: E) H) : TQ C ops Q (i :: l) E H := have ⟨ho, hg, hd, hx⟩ := q0_;
  Jm ho hg hd (by simp) (fun a w hf _ => by simp [execOp, hf.ev hx]) k
theorem Ld {c x y : Operand} {v : Value} (q0_ : ops[i]? = some ⟨some d, .pick c x y, ty, Zc, af, g⟩ ∧ Zk ops E g = true ∧ Nat.ble (d + 1) C.n = true ∧ ev E c = some (.bool true) ∧ ev E x = some v) (k : TQ C ops Q l ((d, v) :: E) H) : TQ C ops Q (i :: l) E H := have ⟨ho, hg, hd, hc, hx⟩ := q0_;
  Jm ho hg hd (by simp) (fun a w hf _ => by simp [execOp, hf.ev hc, hf.ev hx, asBool]) k
theorem Z5h {c x y : Operand} {v : Value} (q0_ : ops[i]? = some ⟨some d, .pick c x y, ty, Zc, af, g⟩ ∧ Zk ops E g = true ∧ Nat.ble (d + 1) C.n = true ∧ ev E c = some (.bool false) ∧ ev E y = some v) (k : TQ C ops Q l ((d, v) :: E) H) : TQ C ops Q (i :: l) E H := have ⟨ho, hg, hd, hc, hx⟩ := q0_;
  Jm ho hg hd (by simp) (fun a w hf _ => by simp [execOp, hf.ev hc, hf.ev hx, asBool]) k
theorem Ja {op : BinOp} {t t2 : TypeId} {x y : Operand} {k : IntKind} {p q : Int} {v : Value}
    (q0_ : ops[i]? = some ⟨some d, .binOp op t x y t2, ty, Zc, af, g⟩ ∧ Zk ops E g = true ∧ Nat.ble (d + 1) C.n = true ∧ ev E x = some (.int k p) ∧ ev E y = some (.int k q) ∧ Lj op k p q = some v) (kk : TQ C ops Q l ((d, v) :: E) H) : TQ C ops Q (i :: l) E H := have ⟨ho, hg, hd, hx, hy, hv⟩ := q0_;
  Jm ho hg hd (by simp) (fun a w hf _ => by simp [execOp, hf.ev hx, hf.ev hy, eqGuard_at_int, Z8d hv]) kk
theorem TQ.fieldAddr {s : TypeId} {x : Operand} {f o b p : Nat} (ho : ops[i]? = some ⟨some d, .fieldAddr s x f, ty, Zc, af, g⟩) (hg : Zk ops E g = true) (hd : Nat.ble (d + 1) C.n = true)
    (hx : ev E x = some (.pointer (some ⟨b, p, none⟩))) (hT : Vh C.P s f = some o) (kk : TQ C ops Q l ((d, .pointer (some ⟨b, p + o, none⟩)) :: E) H) : TQ C ops Q (i :: l) E H :=
  Jm ho hg hd (by simp) (fun a w hf _ => by simp [execOp, hf.ev hx, Z5l hT]) kk
theorem Wa {s : TypeId} {x : Operand} {f o b : Nat} (q0_ : ops[i]? = some ⟨some d, .fieldAddr s x f, ty, Zc, af, g⟩ ∧ Zk ops E g = true ∧ Nat.ble (d + 1) C.n = true ∧ ev E x = some (.pointer (some ⟨b, 0, none⟩))) (hT : Vh C.P s f = some o) (kk : TQ C ops Q l ((d, .pointer (some ⟨b, o, none⟩)) :: E) H) : TQ C ops Q (i :: l) E H := have ⟨ho, hg, hd, hx⟩ := q0_;
  TQ.fieldAddr ho hg hd hx hT (by rw [Nat.zero_add]; exact kk)
theorem TQ.load {t : TypeId} {x : Operand} {ad : Addr} {v : Value} (ho : ops[i]? = some ⟨some d, .load t x, ty, Zc, af, g⟩) (hg : Zk ops E g = true) (hd : Nat.ble (d + 1) C.n = true)
    (hx : ev E x = some (.pointer (some ad))) (hT : Xv C.P t = true) (hc : ∀ w, Inv C.w0 C.M w H → w.cell? ad = some v)
    (kk : TQ C ops Q l ((d, v) :: E) H) : TQ C ops Q (i :: l) E H :=
  Jm ho hg hd (by simp) (fun a w hf hi => by simp [execOp, hf.ev hx, Instr.loadAt, Instr.sureAddr, Z5n hT (hc w hi)]) kk
theorem Ys {t T' : TypeId} {x : Operand} {b o : Nat} {cs : Array Value} {fr : Nat × Nat} {v : Value} (q0_ : ops[i]? = some ⟨some d, .load t x, ty, Zc, af, g⟩ ∧ Zk ops E g = true ∧ Nat.ble (d + 1) C.n = true ∧ ev E x = some (.pointer (some ⟨b, o, none⟩))) (hT : Xv C.P t = true) (hm : (some b, Obj.cells cs T' fr) ∈ H) (hv : cs[o]? = some v)
    (kk : TQ C ops Q l ((d, v) :: E) H) : TQ C ops Q (i :: l) E H := have ⟨ho, hg, hd, hx⟩ := q0_;
  TQ.load ho hg hd hx hT (fun w hi => by rw [hi.cell_own hm]; exact hv) kk
theorem TQ.loadS {t : TypeId} {x : Operand} {ad : Addr} {k : Nat} {cs : List Value} (ho : ops[i]? = some ⟨some d, .load t x, ty, Zc, af, g⟩) (hg : Zk ops E g = true) (hd : Nat.ble (d + 1) C.n = true)
    (hx : ev E x = some (.pointer (some ad))) (hT : Vr C.P t k = true) (hk : cs.length = k) (hc : ∀ w, Inv C.w0 C.M w H → ∀ j v, cs[j]? = some v → w.cell? (ad.add j) = some v)
    (kk : TQ C ops Q l ((d, .agg cs.toArray) :: E) H) : TQ C ops Q (i :: l) E H :=
  Jm ho hg hd (by simp) (fun a w hf hi => by simp [execOp, hf.ev hx, Instr.loadAt, Instr.sureAddr, Z5x hT hk (hc w hi)]) kk
theorem Z8m {t e : TypeId} {x y : Operand} {base : Option Addr} {n c s : Nat} {k : IntKind} {p : Int} (ho : ops[i]? = some ⟨some d, .indexAddr t x y, ty, Zc, af, g⟩) (hg : Zk ops E g = true) (hd : Nat.ble (d + 1) C.n = true)
    (hx : ev E x = some (.slice base n c)) (hy : ev E y = some (.int k p)) (ht : Xi C.P t = some e) (hs : Yq C.P e = some s) (hb : base = none → n = 0) (h0 : 0 ≤ p) (h1 : p < n)
    (kk : TQ C ops Q l ((d, .pointer (some (ea base (p.toNat * s)))) :: E) H) : TQ C ops Q (i :: l) E H :=
  Jm ho hg hd (by simp) (fun a w hf hi => by
    cases base with
    | none => exact absurd h1 (by simp [hb rfl]; omega)
    | some b =>
      have hu := Kp ht
      simp [execOp, hf.ev hx, hf.ev hy, Instr.indexAt, asIntOf, run_underlying hu, h0, h1, Gx hs, ea]) kk
theorem TQ.index {t e : TypeId} {x y : Operand} {b o n c s : Nat} {k : IntKind} {p : Int} (ho : ops[i]? = some ⟨some d, .indexAddr t x y, ty, Zc, af, g⟩) (hg : Zk ops E g = true) (hd : Nat.ble (d + 1) C.n = true)
    (hx : ev E x = some (.slice (some ⟨b, o, none⟩) n c)) (hy : ev E y = some (.int k p)) (ht : Xi C.P t = some e) (hs : Yq C.P e = some s) (h0 : 0 ≤ p) (h1 : p < n)
    (kk : TQ C ops Q l ((d, .pointer (some ⟨b, o + p.toNat * s, none⟩)) :: E) H) : TQ C ops Q (i :: l) E H :=
  Z8m ho hg hd hx hy ht hs (by simp) h0 h1 (by simpa [ea, Addr.add_mid] using kk)
theorem Zew {t e : TypeId} {x y : Operand} {b n c s : Nat} {k : IntKind} {p : Int} (ho : ops[i]? = some ⟨some d, .indexAddr t x y, ty, Zc, af, g⟩) (hg : Zk ops E g = true) (hd : Nat.ble (d + 1) C.n = true)
    (hx : ev E x = some (.slice (some ⟨b, 0, none⟩) n c)) (hy : ev E y = some (.int k p)) (ht : Xi C.P t = some e) (hs : Yq C.P e = some s) (h0 : 0 ≤ p) (h1 : p < n)
    (kk : TQ C ops Q l ((d, .pointer (some ⟨b, p.toNat * s, none⟩)) :: E) H) : TQ C ops Q (i :: l) E H :=
  TQ.index ho hg hd hx hy ht hs h0 h1 (by rw [Nat.zero_add]; exact kk)
theorem TQ.len {t : TypeId} {at' : Array TypeId} {x : Operand} {e : TypeId} {base : Option Addr} {n c : Nat}
    (ho : ops[i]? = some ⟨some d, .call ⟨.builtin .len, #[x], at'⟩, ty, Zc, af, g⟩) (hg : Zk ops E g = true) (hd : Nat.ble (d + 1) C.n = true) (hat : at'[0]? = some t)
    (hx : ev E x = some (.slice base n c)) (ht : Xi C.P t = some e) (kk : TQ C ops Q l ((d, .int .i64 n) :: E) H) : TQ C ops Q (i :: l) E H :=
  Jm ho hg hd (by simp) (fun a w hf _ => by
    simp [execOp, resolve, invoke, builtin, hf.ev hx, Builtin.len_, hat, run_underlying (Kp ht), goInt]) kk
theorem Z4c {α : Type} {t : TypeId} {at' : Array TypeId} {x : Operand} {e : TypeId} {base : Option Addr} {n c : Nat} {xs : List α} (hn : xs.length = n)
    (q0_ : ops[i]? = some ⟨some d, .call ⟨.builtin .len, #[x], at'⟩, ty, Zc, af, g⟩ ∧ Zk ops E g = true ∧ Nat.ble (d + 1) C.n = true ∧ at'[0]? = some t ∧ ev E x = some (.slice base n c)) (ht : Xi C.P t = some e) (kk : TQ C ops Q l ((d, .int .i64 (xs.length : Int)) :: E) H) : TQ C ops Q (i :: l) E H := have ⟨ho, hg, hd, hat, hx⟩ := q0_;
  TQ.len ho hg hd hat hx ht (by rw [← hn]; exact kk)
theorem TQ.ixR {α : Type} {f : α → List Value} {M : List Nat} {w : World} {xs : List α} {t e : TypeId} {x y : Operand} {base : Option Addr} {n c s : Nat} {k : IntKind} {p : Int} (hr : RS w M f s base n c xs) (hp : inb p xs.length)
    (q0_ : ops[i]? = some ⟨some d, .indexAddr t x y, ty, Zc, af, g⟩ ∧ Zk ops E g = true ∧ Nat.ble (d + 1) C.n = true ∧ ev E x = some (.slice base n c) ∧ ev E y = some (.int k p)) (ht : Xi C.P t = some e) (hs : Yq C.P e = some s)
    (kk : TQ C ops Q l ((d, .pointer (some (ea base (p.toNat * s)))) :: E) H) : TQ C ops Q (i :: l) E H := have ⟨ho, hg, hd, hx, hy⟩ := q0_;
  Z8m ho hg hd hx hy ht hs hr.ro.nil hp.1 (by have := hp.2; rw [hr.len] at this; exact this) kk
theorem TQ.ix0 {α : Type} {xs : List α} {t e : TypeId} {x y : Operand} {b n c s : Nat} {k : IntKind} {p : Int} (hn : xs.length = n) (hp : inb p xs.length)
    (ho : ops[i]? = some ⟨some d, .indexAddr t x y, ty, Zc, af, g⟩) (hg : Zk ops E g = true) (hd : Nat.ble (d + 1) C.n = true)
    (hx : ev E x = some (.slice (some ⟨b, 0, none⟩) n c)) (hy : ev E y = some (.int k p)) (ht : Xi C.P t = some e) (hs : Yq C.P e = some s)
    (kk : TQ C ops Q l ((d, .pointer (some ⟨b, p.toNat * s, none⟩)) :: E) H) : TQ C ops Q (i :: l) E H :=
  Zew ho hg hd hx hy ht hs hp.1 (by have := hp.2; rw [hn] at this; exact this) kk
theorem Z81 {α : Type} {f : α → List Value} {s : Nat} {t : TypeId} {x : Operand} {base : Option Addr} {n c : Nat} {p : Int} {xs : List α} {cs : List Value} (dflt : α) (hr : RS C.w0 C.M f s base n c xs) (hp : inb p xs.length) (q0_ : ops[i]? = some ⟨some d, .load t x, ty, Zc, af, g⟩ ∧ Zk ops E g = true ∧ Nat.ble (d + 1) C.n = true ∧ ev E x = some (.pointer (some (ea base (p.toNat * s)))) ∧ f (xs.getD p.toNat dflt) = cs) (hT : Vr C.P t s = true)
    (kk : TQ C ops Q l ((d, .agg cs.toArray) :: E) H) : TQ C ops Q (i :: l) E H := have ⟨ho, hg, hd, hx, hcs⟩ := q0_;
  TQ.loadS ho hg hd hx hT (by rw [← hcs]; exact hr.ro.wide _) (fun w hi q v hq => by
    subst hcs
    have hqs : q < s := by rw [← hr.ro.wide (xs.getD p.toNat dflt)]; exact (List.getElem?_eq_some_iff.1 hq).1
    have := (hr.ro.monoM hr.far hi).at dflt (o := p.toNat) (c := q) (Nj hp) hqs
    rw [Z5v]
    exact this.trans hq) kk
theorem TQ.ixV {α : Type} {xs : List α} {t e : TypeId} {x y : Operand} {ob : Option Nat} {n c s : Nat} {k : IntKind} {p : Int} (hz : ob = none → c = 0) (hc : n ≤ c) (hn : xs.length = n) (hp : inb p xs.length)
    (q0_ : ops[i]? = some ⟨some d, .indexAddr t x y, ty, Zc, af, g⟩ ∧ Zk ops E g = true ∧ Nat.ble (d + 1) C.n = true ∧ ev E x = some (.slice (sb ob) n c) ∧ ev E y = some (.int k p)) (ht : Xi C.P t = some e) (hs : Yq C.P e = some s)
    (kk : TQ C ops Q l ((d, .pointer (some (ea (sb ob) (p.toNat * s)))) :: E) H) : TQ C ops Q (i :: l) E H := by
  obtain ⟨ho, hg, hd, hx, hy⟩ := q0_
  obtain ⟨b, rfl⟩ := Z96 hz hc hn hp
  exact TQ.ix0 hn hp ho hg hd hx hy ht hs (by rw [← Z7t]; exact kk)
end rules
end Go.Acq
namespace Go.Acq
open Go Go.RowKit
section rules
variable {C : Cx} {ops : Array Oper} {Q : Exit → Act → World → Prop} {l : List Nat} {E : Env} {H R : Heap} {i d : Nat} {ty : TypeId} {Zc : String} {af : Array Edge} {g : Option (Nat × Bool)}
end rules
end Go.Acq
namespace Go.Acq
open Go Go.RowKit
section
variable {C : Cx} {Q : Exit → Act → World → Prop} {E : Env} {H : Heap} {c x y : Code}
end
end Go.Acq
namespace Go.Acq
open Go
end Go.Acq
namespace Go.Acq
open Go Go.RowKit
theorem Zg {α : Type} {x : α} {l : List α} : x ∈ x :: l := .head _
theorem Yc {α : Type} {a0 x : α} {l : List α} : x ∈ a0 :: x :: l := .tail _ Zg
theorem Wm {α : Type} {a0 a1 x : α} {l : List α} : x ∈ a0 :: a1 :: x :: l := .tail _ Yc
theorem Jg {α : Type} {a0 a1 a2 x : α} {l : List α} : x ∈ a0 :: a1 :: a2 :: x :: l := .tail _ Wm
theorem Jk {α : Type} {a0 a1 a2 a3 x : α} {l : List α} : x ∈ a0 :: a1 :: a2 :: a3 :: x :: l := .tail _ Jg
theorem Vf {α : Type} {a0 a1 a2 a3 a4 x : α} {l : List α} : x ∈ a0 :: a1 :: a2 :: a3 :: a4 :: x :: l := .tail _ Jk
theorem mm6 {α : Type} {a0 a1 a2 a3 a4 a5 x : α} {l : List α} : x ∈ a0 :: a1 :: a2 :: a3 :: a4 :: a5 :: x :: l := .tail _ Vf
theorem mm7 {α : Type} {a0 a1 a2 a3 a4 a5 a6 x : α} {l : List α} : x ∈ a0 :: a1 :: a2 :: a3 :: a4 :: a5 :: a6 :: x :: l := .tail _ mm6
theorem Vq {α : Type} {a0 a1 a2 a3 a4 a5 a6 a7 x : α} {l : List α} : x ∈ a0 :: a1 :: a2 :: a3 :: a4 :: a5 :: a6 :: a7 :: x :: l := .tail _ mm7
theorem mm9 {α : Type} {a0 a1 a2 a3 a4 a5 a6 a7 a8 x : α} {l : List α} : x ∈ a0 :: a1 :: a2 :: a3 :: a4 :: a5 :: a6 :: a7 :: a8 :: x :: l := .tail _ Vq
theorem Jb {α : Type} {a0 a1 a2 a3 a4 a5 a6 a7 a8 a9 x : α} {l : List α} : x ∈ a0 :: a1 :: a2 :: a3 :: a4 :: a5 :: a6 :: a7 :: a8 :: a9 :: x :: l := .tail _ mm9
theorem Ze {x : Option Nat × Obj} {l : Heap} : Take x (x :: l) (l) := Take.head _ _
theorem Zs {a0 x : Option Nat × Obj} {l : Heap} : Take x (a0 :: x :: l) (a0 :: l) := Take.tail Ze
theorem Xn {a0 a1 x : Option Nat × Obj} {l : Heap} : Take x (a0 :: a1 :: x :: l) (a0 :: a1 :: l) := Take.tail Zs
theorem tk3 {a0 a1 a2 x : Option Nat × Obj} {l : Heap} : Take x (a0 :: a1 :: a2 :: x :: l) (a0 :: a1 :: a2 :: l) := Take.tail Xn
theorem tk4 {a0 a1 a2 a3 x : Option Nat × Obj} {l : Heap} : Take x (a0 :: a1 :: a2 :: a3 :: x :: l) (a0 :: a1 :: a2 :: a3 :: l) := Take.tail tk3
theorem tk5 {a0 a1 a2 a3 a4 x : Option Nat × Obj} {l : Heap} : Take x (a0 :: a1 :: a2 :: a3 :: a4 :: x :: l) (a0 :: a1 :: a2 :: a3 :: a4 :: l) := Take.tail tk4
theorem tk6 {a0 a1 a2 a3 a4 a5 x : Option Nat × Obj} {l : Heap} : Take x (a0 :: a1 :: a2 :: a3 :: a4 :: a5 :: x :: l) (a0 :: a1 :: a2 :: a3 :: a4 :: a5 :: l) := Take.tail tk5
theorem tk7 {a0 a1 a2 a3 a4 a5 a6 x : Option Nat × Obj} {l : Heap} : Take x (a0 :: a1 :: a2 :: a3 :: a4 :: a5 :: a6 :: x :: l) (a0 :: a1 :: a2 :: a3 :: a4 :: a5 :: a6 :: l) := Take.tail tk6
theorem tk8 {a0 a1 a2 a3 a4 a5 a6 a7 x : Option Nat × Obj} {l : Heap} : Take x (a0 :: a1 :: a2 :: a3 :: a4 :: a5 :: a6 :: a7 :: x :: l) (a0 :: a1 :: a2 :: a3 :: a4 :: a5 :: a6 :: a7 :: l) := Take.tail tk7
theorem Gone.refl (R : Heap) : List.Perm R ([] ++ R) := List.Perm.refl R
section rules
variable {C : Cx} {ops : Array Oper} {Q : Exit → Act → World → Prop} {l : List Nat} {E : Env} {H R : Heap} {i d : Nat} {ty : TypeId} {Zc : String} {af : Array Edge} {g : Option (Nat × Bool)}
theorem TO.nilCheck {x : Operand} {p : Addr} (q0_ : ops[i]? = some ⟨some d, .nilCheck x, ty, Zc, af, g⟩ ∧ Zk ops E g = true ∧ Nat.ble (d + 1) C.n = true ∧ ev E x = some (.pointer (some p)))
    (k : TO C ops Q l ((d, .pointer (some p)) :: E) H) : TO C ops Q (i :: l) E H := have ⟨ho, hg, hd, hx⟩ := q0_;
  TO.val ho hg hd (by simp) (fun a w hf _ => by simp [execOp, hf.ev hx]) k
end rules
section rules
variable {C : Cx} {ops : Array Oper} {Q : Act → Prop} {l : List Nat} {E : Env} {H R : Heap} {i d : Nat} {ty : TypeId} {Zc : String} {af : Array Edge} {g : Option (Nat × Bool)}
theorem TQ.nilCheck {x : Operand} {p : Addr} (q0_ : ops[i]? = some ⟨some d, .nilCheck x, ty, Zc, af, g⟩ ∧ Zk ops E g = true ∧ Nat.ble (d + 1) C.n = true ∧ ev E x = some (.pointer (some p)))
    (k : TQ C ops Q l ((d, .pointer (some p)) :: E) H) : TQ C ops Q (i :: l) E H := have ⟨ho, hg, hd, hx⟩ := q0_;
  Jm ho hg hd (by simp) (fun a w hf _ => by simp [execOp, hf.ev hx]) k
end rules
section draw
variable {C : Cx} {ops : Array Oper} {Q : Exit → Act → World → Prop} {E : Env} {H : Heap}
theorem Z0e {A B Tl : Heap} (X Hx : Heap) : List.Perm (X ++ ((A ++ Tl) ++ (B ++ Hx))) (X ++ (A ++ (B ++ (Tl ++ Hx)))) := by
 refine List.Perm.append_left X ?_
 rw [List.append_assoc]
 refine List.Perm.append_left A ?_
 rw [← List.append_assoc, ← List.append_assoc]
 exact List.Perm.append_right Hx List.perm_append_comm
theorem ObQ.tail {S : List Sp} {W : Env} {Hc : Heap} {i : Nat} (Tl : Heap) (h : ObQ C ops Q S W Hc i) : ObQ C ops Q S W (Hc ++ Tl) i := by
 intro vs es Es Hx hr a w hf hi
 refine Ry (l2 := []) (fun e a w hne hq => ?_) (fun a w hq => ?_) [i] a w (h vs es Es (Tl ++ Hx) hr a w hf (hi.perm (Z0e [] Hx)))
 · cases e <;> first | exact absurd rfl hne | exact hq
 ·
  obtain ⟨v, e', h1, h2, h3⟩ := hq
  exact ⟨v, e', h1, h2, h3.perm (Z0e e' Hx).symm⟩
theorem ObE.tail {S : List Sp} {HR : Nat → List Value → Heap → Prop} {hd : List (List Nat)} {W : Env} {Hc : Heap} {i : Nat} (Tl : Heap) (h : ObE C ops Q S HR hd W Hc i) : ObE C ops Q S HR hd W (Hc ++ Tl) i := by
 intro vs es Es Hx hb hr hh a w hf hi
 refine Ry (l2 := []) (fun e a w hne hq => ?_) (fun a w hq => ?_) [i] a w (h vs es Es (Tl ++ Hx) hb hr hh a w hf (hi.perm (Z0e hb Hx)))
 · cases e <;> first | exact absurd rfl hne | exact hq
 ·
  obtain ⟨v, hb', h1, h2, h3, h4⟩ := hq
  exact ⟨v, hb', h1, h2, h3, h4.perm (Z0e hb' Hx).symm⟩
theorem ObsG.tail {S : List Sp} {HR : Nat → List Value → Heap → Prop} {hd : List (List Nat)} {W : Env} {Hc : Heap} (Tl : Heap) : ∀ {l : List Nat}, ObsG C ops Q S HR hd W Hc l → ObsG C ops Q S HR hd W (Hc ++ Tl) l
 | [], _ => trivial
 | i :: l, ⟨h1, h2⟩ => by
  refine ⟨?_, ObsG.tail Tl h2⟩
  cases he : Yr S i with
  | true => rw [he] at h1; exact ObE.tail Tl h1
  | false => rw [he] at h1; exact ObQ.tail Tl h1
end draw
end Go.Acq
namespace Go.Acq
open Go Go.RowKit
section
variable {C : Cx} {ops : Array Oper} {Q : Exit → Act → World → Prop} {l : List Nat} {i d : Nat} {E : Env} {H : Heap} {ty : TypeId} {Zc : String} {af : Array Edge} {g : Option (Nat × Bool)}
end
end Go.Acq
namespace Go.Acq
open Go
structure Chan where
  cap : Nat
  buf : List Int
  deriving DecidableEq
instance : Inhabited Chan := ⟨⟨0, []⟩⟩
def Chan.put (x : Chan) (v : Int) : Chan := ⟨x.cap, x.buf ++ [v]⟩
def Chan.cut (x : Chan) : Chan := ⟨x.cap, x.buf.tail⟩
end Go.Acq
namespace Go.Acq
open Go Go.RowKit Go.Conc
def wpK (P : Program) (c : Code) (Q : Exit → Act → World → Prop) (a : Act) (w : World) : Prop :=
  ∀ (b : Frame) (k : List Item) (cs : List Frame), b.kind ≠ .early → b.roundOf = none →
    ∃ e a' w', Q e a' w' ∧ ArrivesIn (Machine.fenced P (FW none)) P (lone (b.atR a (.code c :: k)) cs w) b k cs e a' w'
def wpOK (P : Program) (ops : Array Oper) (Q : Exit → Act → World → Prop) (l : List Nat) (a : Act) (w : World) : Prop :=
  ∀ (b : Frame) (k : List Item) (cs : List Frame), b.kind ≠ .early → b.roundOf = none →
    ∃ e a' w', Q e a' w' ∧ ArrivesIn (Machine.fenced P (FW none)) P (lone (b.atR a (.inRegion ops l :: k)) cs w) b k cs e a' w'
def TK (C : Cx) (c : Code) (Q : Exit → Act → World → Prop) (E : Env) (H : Heap) : Prop := ∀ a w, Fits C.n C.D E a → Inv C.w0 C.M w H → wpK C.P c Q a w
def TOK (C : Cx) (ops : Array Oper) (Q : Exit → Act → World → Prop) (l : List Nat) (E : Env) (H : Heap) : Prop := ∀ a w, Fits C.n C.D E a → Inv C.w0 C.M w H → wpOK C.P ops Q l a w
theorem Ng (n : Nat) : (FW none).room n := fun d hd => by cases hd
section
variable {C : Cx} {Q : Exit → Act → World → Prop} {E E' : Env} {H H' R : Heap} {x y c : Code} {ops : Array Oper} {l : List Nat} {i d : Nat} {ty : TypeId} {Zc : String} {af : Array Edge} {g : Option (Nat × Bool)}
theorem TK.ofT (hρ : C.ρ = none) (h : T C c Q E H) : TK C c Q E H := fun a w hf hi b k cs _ hro => by
 have := h a w hf hi
 rw [hρ] at this
 exact this b k cs hro trivial (Ng _)
theorem TK.seq (h : TK C x (Exit.then (wpK C.P y Q) Q) E H) : TK C (.seq x y) Q E H := fun a w hf hi b k cs hk hro => by
 have h0 : (lone (b.atR a (.code (.seq x y) :: k)) cs w).fenced C.P (FW none) := fenced_calm trivial (Ng (cs.length + 1 + 0)) rfl
 obtain ⟨e, a₁, w₁, hq, harr⟩ := h a w hf hi b (.code y :: k) cs hk hro
 cases e with
 | normal =>
  obtain ⟨e₂, a₂, w₂, hq₂, harr₂⟩ := hq b k cs hk hro
  exact ⟨e₂, a₂, w₂, hq₂, .of_steps (.head h0 stepR_seq harr) harr₂⟩
 | exit id => exact ⟨_, a₁, w₁, hq, .of_steps (.one h0 stepR_seq) (.pass (x := .code y) rfl (fun _ _ => .inl (by simp)) harr)⟩
 | goto l => exact ⟨_, a₁, w₁, hq, .of_steps (.one h0 stepR_seq) (.pass (x := .code y) rfl (fun _ _ => .inl (by simp)) harr)⟩
 | ret => exact ⟨_, a₁, w₁, hq, .of_steps (.one h0 stepR_seq) (.pass (x := .code y) rfl (fun _ _ => .inl (by simp)) harr)⟩
 | panic ch => exact ⟨_, a₁, w₁, hq, .of_steps (.one h0 stepR_seq) (.pass (x := .code y) rfl (fun _ _ => .inl (by simp)) harr)⟩
 | outgrown => exact ⟨_, a₁, w₁, hq, .of_steps (.one h0 stepR_seq) (.pass (x := .code y) rfl (fun _ _ => .inl (by simp)) harr)⟩
theorem TK.block {id : Nat} (h : TK C c (Exit.inBlock id Q) E H) : TK C (.block id c) Q E H := fun a w hf hi b k cs hk hro => by
 have h0 : (lone (b.atR a (.code (.block id c) :: k)) cs w).fenced C.P (FW none) := fenced_calm trivial (Ng (cs.length + 1 + 0)) rfl
 obtain ⟨e, a₁, w₁, hq, harr⟩ := h a w hf hi b (.inBlock id :: k) cs hk hro
 cases e with
 | normal => exact ⟨.normal, a₁, w₁, hq, .head h0 stepR_block (StepsIn.trans harr (.one (fenced_calm trivial (Ng (cs.length + 1 + 0)) rfl) stepR_inBlock))⟩
 | exit id' =>
  by_cases hid : id' = id
  ·
   simp only [Exit.inBlock, hid, if_true] at hq
   exact ⟨.normal, a₁, w₁, hq, .head h0 stepR_block (harr.1 k (by simp [exitTo, hid]))⟩
  ·
   simp only [Exit.inBlock, hid, if_false] at hq
   have this : (id == id') = false := by simp; exact fun h => hid h.symm
   have hx : exitTo id' (.inBlock id :: k) = exitTo id' k := by simp [exitTo, this]
   exact ⟨.exit id', a₁, w₁, hq, fun k' hk => .head h0 stepR_block (harr.1 k' (by rw [hx]; exact hk)),
    fun hr' hk => let ⟨k₁, h1, h2⟩ := harr.2 hr' (by rw [hx]; exact hk); ⟨k₁, h1, .head h0 stepR_block h2⟩⟩
 | goto l =>
  have hx : gotoIn l (.inBlock id :: k) = gotoIn l k := by simp [gotoIn]
  exact ⟨_, a₁, w₁, hq, fun k' hk => .head h0 stepR_block (harr.1 k' (by rw [hx]; exact hk)),
   fun hr' hk => let ⟨k₁, h1, h2⟩ := harr.2 hr' (by rw [hx]; exact hk); ⟨k₁, h1, .head h0 stepR_block h2⟩⟩
 | ret => exact ⟨_, a₁, w₁, hq, .of_steps (.one h0 stepR_block) harr⟩
 | panic ch => exact ⟨_, a₁, w₁, hq, .of_steps (.one h0 stepR_block) harr⟩
 | outgrown => exact ⟨_, a₁, w₁, hq, .of_steps (.one h0 stepR_block) harr⟩
theorem Z7v {o : Operand} {t : Bool} (ho : ev E o = some (.bool t)) (h : TK C (if t then x else y) Q E H) : TK C (.cond o x y) Q E H := fun a w hf hi b k cs hk hro =>
 let ⟨e, a', w', q, r⟩ := h a w hf hi b k cs hk hro; ⟨e, a', w', q, .of_steps (.one (fenced_calm trivial (Ng (cs.length + 1 + 0)) rfl) (stepR_cond (hf.ev ho))) r⟩
theorem TK.condT {o : Operand} {b : Bool} (ho : ev E o = some (.bool b)) (hb : b = true) (ht : TK C x Q E H) : TK C (.cond o x y) Q E H := by subst hb; exact Z7v ho ht
theorem TK.condF {o : Operand} {b : Bool} (ho : ev E o = some (.bool b)) (hb : b = false) (ht : TK C y Q E H) : TK C (.cond o x y) Q E H := by subst hb; exact Z7v ho ht
theorem TK.condPT {o : Operand} {p : Prop} {hp : Decidable p} (ho : ev E o = some (.bool (@decide p hp))) (hb : p) (ht : TK C x Q E H) : TK C (.cond o x y) Q E H := TK.condT ho (decide_eq_true hb) ht
theorem TK.condPF {o : Operand} {p : Prop} {hp : Decidable p} (ho : ev E o = some (.bool (@decide p hp))) (hb : ¬p) (ht : TK C y Q E H) : TK C (.cond o x y) Q E H := TK.condF ho (decide_eq_false hb) ht
theorem TK.skip (hρ : C.ρ = none) (h : X C Q .normal E H) : TK C .skip Q E H := TK.ofT hρ (T.skip h)
theorem TK.ret (hρ : C.ρ = none) (h : X C Q .ret E H) : TK C .ret Q E H := TK.ofT hρ (T.ret h)
theorem TK.weak (h : TK C c Q E' H') (hE : ∀ t v, find E' t = some v → find E t = some v) (hH : Pick H' H) : TK C c Q E H := fun a w hf hi => h a w (hf.weak hE) (hi.pick hH)
theorem TK.trim (h : AllF E' E) (k : TK C c Q E' H) : TK C c Q E H := fun a w hf hi => k a w (hf.weak fun t v hv => h.sub t v hv) hi
theorem TK.region {id : Nat} {ll : List Nat} (hl : List.range ops.size = ll) (h : TOK C ops Q ll E H) : TK C (.region id ops false) Q E H := fun a w hf hi b k cs hk hro => by
 subst hl
 exact let ⟨e, a', w', q, r⟩ := h a w hf hi b k cs hk hro; ⟨e, a', w', q, .of_steps (.one (fenced_calm trivial (Ng (cs.length + 1 + 0)) rfl) stepR_region) r⟩
theorem wpQ_K {P : Program} {K : World → Prop} (l2 : List Nat) (l : List Nat) : ∀ a : Act, Kb P ops K (fun a => ∀ w, K w → wpOK P ops Q l2 a w) l a → ∀ w, K w → wpOK P ops Q (l ++ l2) a w := by
 induction l with
 | nil => exact fun a h w hw => h w hw
 | cons i rest ih =>
  intro a h w hw b k cs hk hro
  have hb : (FW none).fn b.fn := trivial
  have hr := Ng (cs.length + 1 + 0)
  simp only [Kb] at h
  show ∃ e a' w', Q e a' w' ∧ ArrivesIn (Machine.fenced P (FW none)) P (lone (b.atR a (.inRegion ops (i :: (rest ++ l2)) :: k)) cs w) b k cs e a' w'
  cases ho : ops[i]? with
  | none =>
   simp only [ho] at h
   obtain ⟨e, a', w', hq, harr⟩ := ih a h w hw b k cs hk hro
   have hs := stepR_op_skip (P := P) (b := b) (a := a) (k := k) (cs := cs) (w := w) (ops := ops) (i := i) (rest := rest ++ l2) (by simp [ho])
   simp only [ho, Option.bind_none, Act.put] at hs
   exact ⟨e, a', w', hq, .of_steps (.one (fenced_noOper hb hr ho) hs) harr⟩
  | some o =>
   simp only [ho] at h
   obtain ⟨hnd, hns, h⟩ := h
   have h0 : (lone (b.atR a (.inRegion ops (i :: (rest ++ l2)) :: k)) cs w).fenced P (FW none) := fenced_oper hb hr ho (fun _ _ => trivial)
   by_cases hx : Region.wanted o (yielded ops a.tmps) = true
   ·
    rw [if_pos hx] at h
    obtain ⟨v, h1, h2⟩ := h
    have h1 := h1 w hw
    generalize he : (execOp a.eval o).run P w = z at h1
    unfold Gb at h1
    split at h1
    ·
     obtain ⟨rfl, rfl⟩ := h1
     obtain ⟨e, a', w', hq, harr⟩ := ih _ h2 _ hw b k cs hk hro
     refine ⟨e, a', w', hq, .of_steps (.one h0 ?_) harr⟩
     rw [Frame.atR_of_none hro, Frame.atR_of_none hro]
     exact step_solo_go rfl (stepG_value ho hx hk he)
    ·
     obtain ⟨rfl, h1⟩ := h1
     rename_i f args w0
     obtain ⟨e, w'', fr, ⟨rfl, hw''⟩, hsteps, hfn, hleave⟩ := ((callsIn_FW (ρ := none) (n := 0)).2 h1).2 (b.atR a (.inRegion ops (i :: (rest ++ l2)) :: k) :: cs) (Ng _)
     have henter : step P (lone (b.atR a (.inRegion ops (i :: (rest ++ l2)) :: k)) cs w0) = .next (lone (Frame.enter P f args .normal) (b.atR a (.inRegion ops (i :: (rest ++ l2)) :: k) :: cs) w0) :=
      step_lone_go (by rw [stepGR_op ho hx, Oper.semAt_eq _ _ _ hnd]; simp [stepG.apply, he, Frame.atR])
     have hl : (lone fr (b.atR a (.inRegion ops (i :: (rest ++ l2)) :: k) :: cs) w'').fenced P (FW none) := fenced_leaving (n := 0) trivial (Ng _) hleave
     obtain ⟨e, a', w₃, hq, harr⟩ := ih _ h2 _ hw'' b k cs hk hro
     refine ⟨e, a', w₃, hq, .of_steps (.head h0 henter (StepsIn.trans hsteps (.one hl ?_))) harr⟩
     have hfin : (b.atR a (.inRegion ops (i :: (rest ++ l2)) :: k)).finish v = b.atR (a.put o.dst v) (.inRegion ops (rest ++ l2) :: k) := by rw [Frame.finish_atR, ho]; rfl
     rw [← hfin]; exact step_leave_returned hleave
    · exact h1.elim
   ·
    rw [if_neg hx] at h
    obtain ⟨e, a', w', hq, harr⟩ := ih _ h w hw b k cs hk hro
    have hs := stepR_op_skip (P := P) (b := b) (a := a) (k := k) (cs := cs) (w := w) (ops := ops) (i := i) (rest := rest ++ l2) (by simp [ho]; simpa using hx)
    simp only [ho, Option.bind_some] at hs
    exact ⟨e, a', w', hq, .of_steps (.one h0 hs) harr⟩
theorem TOK.pre (l1 l2 : List Nat) {l : List Nat} (hl : l1 ++ l2 = l) (h : TQ C ops (fun a => ∀ w, Inv C.w0 C.M w H → wpOK C.P ops Q l2 a w) l1 E H) : TOK C ops Q l E H := fun a w hf hi => by
 subst hl
 exact wpQ_K l2 l1 a (h a hf) w hi
theorem TO.loadP {t T' : TypeId} {x : Operand} {b o k : Nat} {cs vs : List Value} {fr : Nat × Nat} (q0_ : ops[i]? = some ⟨some d, .load t x, ty, Zc, af, g⟩ ∧ Zk ops E g = true ∧ Nat.ble (d + 1) C.n = true ∧ ev E x = some (.pointer (some ⟨b, o, none⟩))) (hT : Vr C.P t k = true) (hm : (some b, Obj.cells cs.toArray T' fr) ∈ H) (q1_ : (cs.drop o).take k = vs ∧ vs.length = k)
    (kk : TO C ops Q l ((d, .agg vs.toArray) :: E) H) : TO C ops Q (i :: l) E H := have ⟨ho, hg, hd, hx⟩ := q0_; have ⟨hv, hk⟩ := q1_;
  Z29 ho hg hd hx hT hk (fun w hi j v hj => by
    rw [Addr.add_mid, hi.cell_own hm]
    subst hv
    rw [List.getElem?_take] at hj
    split at hj
    · rw [List.getElem?_drop] at hj; simpa using hj
    · cases hj) kk
end
end Go.Acq
namespace Go.Acq
open Go Go.RowKit
def eqFs (P : Program) : List Field → List IntKind → Nat → Bool
  | [], [], _ => true
  | f :: fs, k :: ks, o => f.name != "_" && Nat.beq f.offset o && (match P.underlying f.type with | some (.int q) => decide (q = k) | _ => false) && eqFs P fs ks (o + 1)
  | _, _, _ => false
def eqsT (P : Program) (t : TypeId) (ks : List IntKind) : Bool :=
  (match P.underlying t with | some (.struct fs) => eqFs P fs.toList ks 0 | _ => false) && !P.stoodInHeld t && !P.eqGuardType P.depth t
theorem Z7f {P : Program} {w : World} {n : Nat} {xs ys : Array Value} : ∀ (fs : List Field) (ks : List IntKind) (o : Nat) (us ws : List Int), eqFs P fs ks o = true → us.length = ks.length → ws.length = ks.length →
    (∀ i, i < ks.length → xs[o + i]? = some (.int (ks.getD i .i64) (us.getD i 0)) ∧ ys[o + i]? = some (.int (ks.getD i .i64) (ws.getD i 0))) → (Op.eqFields (n + 1) xs ys fs).run P w = .ok (decide (us = ws)) w
  | [], [], _, [], [], _, _, _, _ => by simp [Op.eqFields]
  | f :: fs, k :: ks, o, a :: us, b :: ws, h, ha, hb, hx => by
    simp only [eqFs, Bool.and_eq_true, bne_iff_ne, ne_eq] at h
    obtain ⟨⟨⟨h1, h2⟩, h3⟩, h4⟩ := h
    have h2 : f.offset = o := Nat.eq_of_beq_eq_true h2
    split at h3
    · rename_i q hq
      have h3 : q = k := of_decide_eq_true h3
      subst h3
      have h0 := hx 0 (by simp)
      simp only [Nat.add_zero, List.getD_cons_zero] at h0
      have ih := Z7f (w := w) (n := n) fs ks (o + 1) us ws h4 (by simpa using ha) (by simpa using hb) (fun i hi => by
        have := hx (i + 1) (by simpa using hi)
        simp only [List.getD_cons_succ] at this
        rwa [show o + 1 + i = o + (i + 1) by omega])
      have hagg : ∀ w, (isAgg f.type).run P w = .ok false w := fun w => by simp [isAgg, run_underlying hq]
      have hp : ∀ (cs : Array Value) v, cs[f.offset]? = some v → ∀ w, (part f.type cs f.offset).run P w = .ok v w := fun cs v hv w => by
        simp [part, hagg, hv]
      rw [← h2] at h0
      simp only [Op.eqFields, h1, not_false_eq_true, ne_eq, if_true]
      simp only [Sem.run_bind, hp _ _ h0.1, hp _ _ h0.2, Result.andThen_ok, run_equalIn_int w n f.type q q a b hq]
      by_cases hab : a = b
      · subst hab
        simp [ih]
      · simp [hab]
    · cases h3
section rules
variable {C : Cx} {ops : Array Oper} {Q : Exit → Act → World → Prop} {l : List Nat} {E : Env} {H R : Heap} {i d : Nat} {ty : TypeId} {Zc : String} {af : Array Edge} {g : Option (Nat × Bool)}
theorem eqsT_run {P : Program} {t : TypeId} {ks : List IntKind} {us ws : List Int} (h : eqsT P t ks = true) (ha : us.length = ks.length) (hb : ws.length = ks.length) (w : World) :
    (Op.equal t (.agg ((ks.zip us).map fun p => Value.int p.1 p.2).toArray) (.agg ((ks.zip ws).map fun p => Value.int p.1 p.2).toArray)).run P w = .ok (decide (us = ws)) w := by
  simp only [eqsT, Bool.and_eq_true, Bool.not_eq_true'] at h
  obtain ⟨⟨h1, h2⟩, h3⟩ := h
  split at h1
  · rename_i fs hfs
    have hf : P.fieldsOf t = fs := by simp [Program.fieldsOf, hfs]
    have key : ∀ (cs : List Int), cs.length = ks.length → ∀ i, i < ks.length → (((ks.zip cs).map fun p => Value.int p.1 p.2).toArray)[0 + i]? = some (.int (ks.getD i .i64) (cs.getD i 0)) := fun cs hc i hi => by
      have e1 : ks[i]? = some (ks.getD i .i64) := by simp [List.getD_eq_getElem?_getD, hi]
      have e2 : cs[i]? = some (cs.getD i 0) := by simp [List.getD_eq_getElem?_getD, hc, hi]
      rw [Nat.zero_add, List.getElem?_toArray, List.getElem?_map, List.zip, List.getElem?_zipWith, e1, e2]
      rfl
    show (Op.equalIn (9999 + 1) t _ _).run P w = _
    rw [run_equalIn_agg w 9999 t _ _ (by rw [hf]; exact hfs) h2, hf]
    exact Z7f (n := 9998) fs.toList ks 0 us ws h1 ha hb fun i hi => ⟨key us ha i hi, key ws hb i hi⟩
  · cases h1
end rules
end Go.Acq
namespace Go.Acq
open Go Go.RowKit
section
variable {α : Type} {w0 w : World} {M M' : List Nat} {f : α → List Value} {s n c : Nat} {base : Option Addr} {xs ys : List α} {ob : Option Nat} {j : List Value} {H Hm R : Heap} {T' : TypeId} {fr : Nat × Nat}
def Seen (w0 : World) (M : List Nat) (f : α → List Value) (s : Nat) (base : Option Addr) (n c : Nat) (xs ys : List α) (ob : Option Nat) : Prop :=
  (base = sb ob ∧ ys = xs ∧ xs.length = n ∧ n ≤ c ∧ (ob = none → c = 0)) ∨ RS w0 M f s base n c xs
theorem Seen.own (hn : xs.length = n) (hc : n ≤ c) (hz : ob = none → c = 0) : Seen w0 M f s (sb ob) n c xs xs ob := .inl ⟨rfl, rfl, hn, hc, hz⟩
theorem Seen.ro (h : RS w0 M f s base n c xs) : Seen w0 M f s base n c xs [] none := .inr h
theorem Seen.len (h : Seen w0 M f s base n c xs ys ob) : xs.length = n := h.elim (fun h => h.2.2.1) (fun h => h.len)
theorem Seen.cap (h : Seen w0 M f s base n c xs ys ob) : n ≤ c := h.elim (fun h => h.2.2.2.1) (fun h => h.cap)
theorem Seen.nil (h : Seen w0 M f s base n c xs ys ob) (hb : base = none) : n = 0 := by
 rcases h with ⟨h1, h2, h3, h4, h5⟩ | h
 ·
  cases ob with
  | none => have := h5 rfl; omega
  | some b => rw [h1] at hb; cases hb
 · exact h.ro.nil hb
theorem Seen.rs (h : Seen w0 M f s base n c xs ys ob) (hf : ∀ x, (f x).length = s) (hi : Inv w0 M w H) (hm : (ob, Obj.cells (arr f ys j).toArray T' fr) ∈ H) : RS w [] f s base n c xs := by
 rcases h with ⟨rfl, rfl, h3, h4, h5⟩ | h
 · exact hi.rs hf hm h3 h4 h5
 · exact h.mono hi
theorem Seen.rsM (h : Seen w0 M f s base n c xs ys ob) (hf : ∀ x, (f x).length = s) (hs : 0 < s) (hi : Inv w0 M w H) (hp : List.Perm H (Hm ++ R)) (hM : Hm.filterMap (·.1) = M') (hm : (ob, Obj.cells (arr f ys j).toArray T' fr) ∈ R) : RS w M' f s base n c xs := by
 rcases h with ⟨rfl, rfl, h3, h4, h5⟩ | h
 · exact hi.rsM hf hp hM hm h3 h4 h5
 · exact h.monoM hs hi hp hM
end
section rules
variable {C : Cx} {ops : Array Oper} {Q : Exit → Act → World → Prop} {l : List Nat} {E : Env} {H R : Heap} {i d : Nat} {ty : TypeId} {Zc : String} {af : Array Edge} {g : Option (Nat × Bool)}
end rules
end Go.Acq
namespace Go.Acq
end Go.Acq
namespace Go.Acq
open Go Go.RowKit
section
variable {α : Type} {q : IntKind} {f : α → Value} {k : Int × Int} {z v : α}
end
section
variable {P : Program} {w : World} {kt i : TypeId} {q : IntKind}
end
section rules
variable {C : Cx} {ops : Array Oper} {Q : Exit → Act → World → Prop} {l : List Nat} {E : Env} {H R : Heap} {i d : Nat} {ty : TypeId} {Zc : String} {af : Array Edge} {g : Option (Nat × Bool)}
variable {α : Type} {q : IntKind} {f : α → Value}
end rules
end Go.Acq
namespace Go.Acq
open Go
end Go.Acq
namespace Go.Acq
open Go Go.RowKit
section rules
variable {C : Cx} {ops : Array Oper} {Q : Exit → Act → World → Prop} {l : List Nat} {E : Env} {H R : Heap} {i d : Nat} {ty : TypeId} {Zc : String} {af : Array Edge} {g : Option (Nat × Bool)}
end rules
end Go.Acq
namespace Go.Acq
open Go Go.RowKit
def Kept (ob obK ob' : Option Nat) : Prop := obK = ob ∨ (obK = none ∧ ob' = ob)
section rules
variable {C : Cx} {ops : Array Oper} {Q : Exit → Act → World → Prop} {l : List Nat} {E : Env} {H R : Heap} {i d : Nat} {ty : TypeId} {Zc : String} {af : Array Edge} {g : Option (Nat × Bool)}
theorem Kept.rs {α : Type} {w0 w : World} {M : List Nat} {f : α → List Value} {s n c n2 c2 : Nat} {ob obK ob' : Option Nat} {xs ys : List α} {j j' : List Value} {T T' : TypeId} {fr fr' : Nat × Nat} (h : Kept ob obK ob') (hi : Inv w0 M w H) (hf : ∀ x, (f x).length = s)
    (hm2 : (ob', Obj.cells (arr f (xs ++ ys) j').toArray T' fr') ∈ H) (hmK : (obK, Obj.cells (arr f xs j).toArray T fr) ∈ H) (hn2 : (xs ++ ys).length = n2) (hc2 : n2 ≤ c2) (h02 : ob' = none → c2 = 0) (hn : xs.length = n) (hc : n ≤ c) (h0 : ob = none → c = 0) : RS w [] f s (sb ob) n c xs := by
  rcases h with rfl | ⟨rfl, rfl⟩
  · exact hi.rs hf hmK hn hc h0
  · have h1 := hi.rs hf hm2 hn2 hc2 h02
    have h2 := h1.take (p := (n : Int)) ⟨Int.natCast_nonneg n, by rw [List.length_append]; omega⟩
    rw [Int.toNat_natCast, List.take_left' hn] at h2
    exact ⟨h2.ro, fun _ _ _ => by simp, hc⟩
end rules
end Go.Acq
