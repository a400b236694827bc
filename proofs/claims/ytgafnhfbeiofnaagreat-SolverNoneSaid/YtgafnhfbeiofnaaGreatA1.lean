/- Texts of this claim, one behind the other. -/
import Derived.WalkKit
import Derived.RangeFuncIn
import Derived.CallsIn
import Derived.Deep.AppendSrc
import Derived.Deep.MidRow
import Derived.Great.BuildSlice
import Derived.KernelRfl
import Derived.OrdersIn
import Derived.Maps.RangeRun
import Derived.Laws.Bits64b
import Derived.Deep.Slices
import Derived.Deep.Fields
import Derived.ChangeSame
import Derived.Lib.SmallJoins
import Derived.ProofKit
import Derived.ChangeArms
import Derived.RangeFuncSeq
set_option linter.unusedVariables false
set_option linter.unusedSimpArgs false
namespace Go.Acq
open Go Go.RowKit
theorem rr2 {α β : Type} {a : α} {b : β} : a = a ∧ b = b := ⟨rfl, rfl⟩
theorem Ym {α β γ : Type} {a : α} {b : β} {c : γ} : a = a ∧ b = b ∧ c = c := ⟨rfl, rfl, rfl⟩
theorem Za {α β γ δ : Type} {a : α} {b : β} {c : γ} {d : δ} : a = a ∧ b = b ∧ c = c ∧ d = d := ⟨rfl, rfl, rfl, rfl⟩
theorem Zd {α β γ δ ε : Type} {a : α} {b : β} {c : γ} {d : δ} {e : ε} : a = a ∧ b = b ∧ c = c ∧ d = d ∧ e = e := ⟨rfl, rfl, rfl, rfl, rfl⟩
theorem Zl {α β γ δ ε ζ : Type} {a : α} {b : β} {c : γ} {d : δ} {e : ε} {f : ζ} : a = a ∧ b = b ∧ c = c ∧ d = d ∧ e = e ∧ f = f := ⟨rfl, rfl, rfl, rfl, rfl, rfl⟩
theorem rr7 {α β γ δ ε ζ η : Type} {a : α} {b : β} {c : γ} {d : δ} {e : ε} {f : ζ} {g : η} : a = a ∧ b = b ∧ c = c ∧ d = d ∧ e = e ∧ f = f ∧ g = g := ⟨rfl, rfl, rfl, rfl, rfl, rfl, rfl⟩
theorem rr8 {α β γ δ ε ζ η θ : Type} {a : α} {b : β} {c : γ} {d : δ} {e : ε} {f : ζ} {g : η} {h : θ} : a = a ∧ b = b ∧ c = c ∧ d = d ∧ e = e ∧ f = f ∧ g = g ∧ h = h := ⟨rfl, rfl, rfl, rfl, rfl, rfl, rfl, rfl⟩
theorem rr9 {α β γ δ ε ζ η θ ι : Type} {a : α} {b : β} {c : γ} {d : δ} {e : ε} {f : ζ} {g : η} {h : θ} {i : ι} : a = a ∧ b = b ∧ c = c ∧ d = d ∧ e = e ∧ f = f ∧ g = g ∧ h = h ∧ i = i := ⟨rfl, rfl, rfl, rfl, rfl, rfl, rfl, rfl, rfl⟩
abbrev Env := List (Nat × Value)
abbrev Heap := List (Option Nat × Obj)
def find : Env → Nat → Option Value
  | [], _ => none
  | (d, v) :: E, t => cond (Nat.beq d t) (some v) (find E t)
def ev (E : Env) : Operand → Option Value
  | .tmp t => find E t
  | .const v => some v
  | .global g => some (.pointer (some ⟨g, 0, none⟩))
  | .func f => some (.func (.func f) #[] #[])
structure Fits (n : Nat) (D : List Deferred) (E : Env) (a : Act) : Prop where
  size : a.tmps.size = n
  defers : a.defers = D
  get : ∀ t v, find E t = some v → a.tmps.getD t undef = v
section fits
variable {n : Nat} {D : List Deferred} {E E' : Env} {a : Act} {x : Operand} {v : Value} {d : Nat}
theorem Fits.ev (h : Fits n D E a) (hx : ev E x = some v) : a.eval x = v := by
 cases x with
 | tmp t => exact h.get t v hx
 | const u => simpa [Acq.ev, Act.eval] using hx
 | global g => simpa [Acq.ev, Act.eval] using hx
 | func f => simpa [Acq.ev, Act.eval] using hx
theorem Wo (d t : Nat) (v : Value) (E : Env) : find ((d, v) :: E) t = if d = t then some v else find E t := by
 simp only [find]
 by_cases h : d = t
 · subst h; simp
 ·
  rw [if_neg h]
  have : Nat.beq d t = false := by
   cases hb : Nat.beq d t
   · rfl
   · exact absurd (Nat.eq_of_beq_eq_true hb) h
  simp [this]
theorem Fits.put (h : Fits n D E a) (hd : Nat.ble (d + 1) n = true) (v : Value) : Fits n D ((d, v) :: E) (a.put (some d) v) := by
 have hdn : d < n := Nat.le_of_ble_eq_true hd
 refine ⟨by simpa [Act.put] using h.size, h.defers, fun t u hu => ?_⟩
 rw [Wo] at hu
 by_cases e : d = t
 ·
  subst e
  rw [if_pos rfl] at hu
  simp only [Act.put, Array.getD_eq_getD_getElem?]
  have : d < a.tmps.size := by rw [h.size]; exact hdn
  simp [this]
  simpa using hu
 ·
  rw [if_neg e] at hu
  have := h.get t u hu
  simp only [Act.put, Array.getD_eq_getD_getElem?] at *
  simp [e, this]
theorem Fits.putNone (h : Fits n D E a) (v : Value) : Fits n D E (a.put none v) := h
theorem Fits.weak (h : Fits n D E a) (hs : ∀ t v, find E' t = some v → find E t = some v) : Fits n D E' a := ⟨h.size, h.defers, fun t v hv => h.get t v (hs t v hv)⟩
end fits
def AllF : Env → Env → Prop
  | [], _ => True
  | (t, v) :: L, E => find E t = some v ∧ AllF L E
theorem AllF.sub : ∀ {L E : Env}, AllF L E → ∀ t v, find L t = some v → find E t = some v
 | [], _, _, t, v, h => by simp [find] at h
 | (d, u) :: L, E, ⟨h1, h2⟩, t, v, h => by
  rw [Wo] at h
  by_cases e : d = t
  · subst e; rw [if_pos rfl] at h; rw [h1]; exact h
  · rw [if_neg e] at h; exact AllF.sub h2 t v h
def wo : List Nat → Env → Env
  | _, [] => []
  | D, (t, v) :: E => cond (D.any (Nat.beq t)) (wo D E) ((t, v) :: wo (t :: D) E)
theorem any_beq {t : Nat} : ∀ {D : List Nat}, D.any (Nat.beq t) = true ↔ t ∈ D
 | [] => by simp
 | d :: D => by
  simp only [List.any_cons, Bool.or_eq_true, List.mem_cons, any_beq]
  constructor
  ·
   rintro (h | h)
   · exact .inl (Nat.eq_of_beq_eq_true h)
   · exact .inr h
  ·
   rintro (rfl | h)
   · exact .inl (by simp)
   · exact .inr h
theorem Z0i : ∀ (E : Env) (D : List Nat) (t : Nat) (v : Value), find (wo D E) t = some v → t ∉ D ∧ find E t = some v
 | [], D, t, v, h => by simp [wo, find] at h
 | (d, u) :: E, D, t, v, h => by
  simp only [wo] at h
  cases hb : D.any (Nat.beq d) with
  | true =>
   rw [hb] at h
   obtain ⟨h1, h2⟩ := Z0i E D t v h
   refine ⟨h1, ?_⟩
   rw [Wo, if_neg]
   · exact h2
   · rintro rfl; exact h1 (any_beq.1 hb)
  | false =>
   rw [hb] at h
   simp only [cond_false] at h
   rw [Wo] at h
   by_cases e : d = t
   ·
    subst e
    rw [if_pos rfl] at h
    refine ⟨fun hm => ?_, by rw [Wo, if_pos rfl]; exact h⟩
    rw [any_beq.2 hm] at hb; cases hb
   ·
    rw [if_neg e] at h
    obtain ⟨h1, h2⟩ := Z0i E (d :: D) t v h
    exact ⟨fun hm => h1 (.tail _ hm), by rw [Wo, if_neg e]; exact h2⟩
theorem Gh (L E : Env) (t : Nat) : find (L ++ E) t = (find L t).or (find E t) := by
 induction L with
 | nil => simp [find]
 | cons p L ih =>
  obtain ⟨d, v⟩ := p
  rw [List.cons_append, Wo, Wo]
  split
  · simp
  · exact ih
structure Inv (w0 : World) (M : List Nat) (w : World) (H : Heap) : Prop where
  os : w.os = w0.os
  tape : w.tape = w0.tape
  output : w.output = w0.output
  size : w0.heap.size ≤ w.heap.size
  keep : ∀ b, b < w0.heap.size → b ∉ M → w.heap[b]? = w0.heap[b]?
  own : ∀ b o, (some b, o) ∈ H → w.heap[b]? = some o
  low : ∀ b o, (some b, o) ∈ H → w0.heap.size ≤ b ∨ b ∈ M
  apart : (H.filterMap (·.1)).Nodup
section inv
variable {w0 w w' w'' : World} {M : List Nat} {H H' N R : Heap} {b : Nat} {o o' : Obj}
theorem Inv.below (h : Inv w0 [] w H) : Below w0.heap.size w0 w := ⟨h.os, h.tape, h.output, h.size, fun k hk => h.keep k hk (by simp)⟩
theorem Inv.refl (w : World) : Inv w [] w [] := ⟨rfl, rfl, rfl, Nat.le_refl _, fun _ _ _ => rfl, by simp, by simp, by simp⟩
theorem Kb {b : Nat} {o : Obj} {H : Heap} (h : (some b, o) ∈ H) : b ∈ H.filterMap (·.1) := List.mem_filterMap.2 ⟨_, h, rfl⟩
theorem Ko {b : Nat} {H : Heap} (h : b ∈ H.filterMap (·.1)) : ∃ o, (some b, o) ∈ H := by
 obtain ⟨⟨x, o⟩, hm, hx⟩ := List.mem_filterMap.1 h
 simp only at hx
 subst hx
 exact ⟨o, hm⟩
theorem Inv.lt (h : Inv w0 M w H) (hp : (some b, o) ∈ H) : b < w.heap.size := (Array.getElem?_eq_some_iff.1 (h.own b o hp)).1
theorem Inv.ofHeap (h : Inv w0 M w H) (hh : w'.heap = w.heap) (h1 : w'.os = w.os) (h2 : w'.tape = w.tape) (h3 : w'.output = w.output) : Inv w0 M w' H :=
 ⟨h1.trans h.os, h2.trans h.tape, h3.trans h.output, by rw [hh]; exact h.size, by rw [hh]; exact h.keep, by rw [hh]; exact h.own, h.low, h.apart⟩
theorem Inv.drew (h : Inv w0 M w H) : Inv w0 M w.drew H := h.ofHeap rfl rfl rfl rfl
theorem Inv.alloc (h : Inv w0 M w H) (o : Obj) : Inv w0 M (w.alloc o) ((some w.heap.size, o) :: H) := by
 have hsz : (w.alloc o).heap.size = w.heap.size + 1 := World.size_alloc ..
 refine ⟨h.os, h.tape, h.output, by rw [hsz]; have := h.size; omega, fun b hb hm => ?_, fun b o' hp => ?_, fun b o' hp => ?_, ?_⟩
 · rw [Below.heap_alloc _ _ _ (by have := h.size; omega)]; exact h.keep b hb hm
 ·
  rcases List.mem_cons.1 hp with e | hp
  ·
   injection e with e1 e2
   injection e1 with e1
   subst e1; subst e2
   show (w.heap.push o')[w.heap.size]? = some o'
   simp
  · rw [Below.heap_alloc _ _ _ (h.lt hp)]; exact h.own b o' hp
 ·
  rcases List.mem_cons.1 hp with e | hp
  ·
   injection e with e1 e2
   injection e1 with e1
   subst e1
   exact .inl h.size
  · exact h.low b o' hp
 ·
  simp only [List.filterMap_cons, List.nodup_cons]
  refine ⟨fun hm => ?_, h.apart⟩
  obtain ⟨o', hm⟩ := Ko hm
  have := h.lt hm
  omega
theorem Inv.addNone (h : Inv w0 M w H) (o : Obj) : Inv w0 M w ((none, o) :: H) :=
 ⟨h.os, h.tape, h.output, h.size, h.keep, fun b o' hp => h.own b o' (by simpa using hp), fun b o' hp => h.low b o' (by simpa using hp), by simpa using h.apart⟩
def Take (p : Option Nat × Obj) (H R : Heap) : Prop := List.Perm H (p :: R)
theorem Take.head (p : Option Nat × Obj) (H : Heap) : Take p (p :: H) H := List.Perm.refl _
theorem Take.tail {p q : Option Nat × Obj} (h : Take p H R) : Take p (q :: H) (q :: R) :=
 (List.Perm.cons q h).trans (List.Perm.swap p q R)
theorem Take.mem {p : Option Nat × Obj} (h : Take p H R) : p ∈ H := (List.Perm.mem_iff h).2 (.head _)
def Pick (H' H : Heap) : Prop := ∃ R ns : Heap, (∀ x, x ∈ ns → x.1 = none) ∧ List.Perm (H ++ ns) (H' ++ R)
theorem Zf : Pick [] H := ⟨H, [], by simp, by simp⟩
theorem Ya (H : Heap) : Pick H H := ⟨[], [], by simp, by simp⟩
theorem Zc {p : Option Nat × Obj} (h : Take p H R) (hp : Pick H' R) : Pick (p :: H') H := by
 obtain ⟨S, ns, hn, hS⟩ := hp
 exact ⟨S, ns, hn, (List.Perm.append_right ns h).trans (List.Perm.cons p hS)⟩
theorem Pick.none {o : Obj} (hp : Pick H' H) : Pick ((none, o) :: H') H := by
 obtain ⟨S, ns, hn, hS⟩ := hp
 refine ⟨S, (Option.none, o) :: ns, fun x hx => ?_, ?_⟩
 ·
  rcases List.mem_cons.1 hx with rfl | hx
  · rfl
  · exact hn x hx
 · exact List.perm_middle.trans (List.Perm.cons _ hS)
theorem Z2x {S : Heap} (h : List.Perm H (H' ++ S)) : Pick H' H := ⟨S, [], by simp, by simpa using h⟩
theorem Inv.perm (h : Inv w0 M w H) (hp : List.Perm H H') : Inv w0 M w H' :=
 ⟨h.os, h.tape, h.output, h.size, h.keep, fun b o hm => h.own b o ((List.Perm.mem_iff hp).2 hm), fun b o hm => h.low b o ((List.Perm.mem_iff hp).2 hm), (List.Perm.nodup_iff (hp.filterMap _)).1 h.apart⟩
theorem Inv.left (h : Inv w0 M w (H ++ R)) : Inv w0 M w H :=
 ⟨h.os, h.tape, h.output, h.size, h.keep, fun b o hm => h.own b o (List.mem_append_left _ hm), fun b o hm => h.low b o (List.mem_append_left _ hm), by
  have := h.apart
  rw [List.filterMap_append] at this
  exact (List.nodup_append.1 this).1⟩
theorem Inv.nones (h : Inv w0 M w H) : ∀ {ns : Heap}, (∀ x, x ∈ ns → x.1 = none) → Inv w0 M w (H ++ ns)
 | [], _ => by simpa using h
 | (x, o) :: ns, hn => by
  have h1 := hn (x, o) (.head _)
  simp only at h1
  subst h1
  exact ((Inv.nones h (ns := ns) (fun y hy => hn y (.tail _ hy))).addNone o).perm List.perm_middle.symm
theorem Inv.pick (h : Inv w0 M w H) (hp : Pick H' H) : Inv w0 M w H' := by
 obtain ⟨R, ns, hn, hR⟩ := hp
 exact ((h.nones hn).perm hR).left
theorem Inv.upd (h : Inv w0 M w H) (ht : Take (some b, o) H R) (h1 : w'.os = w.os) (h2 : w'.tape = w.tape) (h3 : w'.output = w.output) (hs : w'.heap.size = w.heap.size)
    (hb : w'.heap[b]? = some o') (ho : ∀ k, k ≠ b → w'.heap[k]? = w.heap[k]?) : Inv w0 M w' ((some b, o') :: R) := by
  have g := h.perm ht
  have ga := g.apart
  simp only [List.filterMap_cons, List.nodup_cons] at ga
  refine ⟨h1.trans h.os, h2.trans h.tape, h3.trans h.output, by rw [hs]; exact h.size, fun k hk hm => ?_, fun k p hp => ?_, fun k p hp => ?_, ?_⟩
  · rw [ho k ?_]
    · exact h.keep k hk hm
    · rintro rfl
      rcases g.low k o (.head _) with hl | hl
      · omega
      · exact hm hl
  · rcases List.mem_cons.1 hp with e | hp
    · injection e with e1 e2
      injection e1 with e1
      subst e1; subst e2
      exact hb
    · rw [ho k ?_]
      · exact g.own k p (.tail _ hp)
      · intro e
        exact ga.1 (e ▸ Kb hp)
  · rcases List.mem_cons.1 hp with e | hp
    · injection e with e1 e2
      injection e1 with e1
      subst e1
      exact g.low k o (.head _)
    · exact g.low k p (.tail _ hp)
  · simpa using ga
theorem Inv.join {M' : List Nat} {Hm : Heap} (h : Inv w0 M w H) (hH : List.Perm H (Hm ++ R)) (hM : ∀ m, m ∈ M' → m ∈ Hm.filterMap (·.1)) (g : Inv w M' w' N) : Inv w0 M w' (N ++ R) := by
 have hp := h.perm hH
 have ha := hp.apart
 rw [List.filterMap_append] at ha
 obtain ⟨_, ha2, ha3⟩ := List.nodup_append.1 ha
 have hlowM : ∀ m, m ∈ M' → w0.heap.size ≤ m ∨ m ∈ M := fun m hm => by
  obtain ⟨o, hpm⟩ := Ko (hM m hm)
  exact hp.low m o (List.mem_append_left _ hpm)
 refine ⟨g.os.trans h.os, g.tape.trans h.tape, g.output.trans h.output, Nat.le_trans h.size g.size, fun k hk hm => ?_, fun k p hpm => ?_, fun k p hpm => ?_, ?_⟩
 ·
  rw [g.keep k (Nat.lt_of_lt_of_le hk h.size) ?_]
  · exact h.keep k hk hm
  ·
   intro hm'
   rcases hlowM k hm' with hl | hl
   · omega
   · exact hm hl
 ·
  rcases List.mem_append.1 hpm with hpm | hpm
  · exact g.own k p hpm
  ·
   rw [g.keep k (hp.lt (List.mem_append_right _ hpm)) ?_]
   · exact hp.own k p (List.mem_append_right _ hpm)
   ·
    intro hm'
    exact ha3 _ (hM _ hm') _ (Kb hpm) rfl
 ·
  rcases List.mem_append.1 hpm with hpm | hpm
  ·
   rcases g.low k p hpm with hl | hl
   · exact .inl (Nat.le_trans h.size hl)
   · exact hlowM _ hl
  · exact hp.low k p (List.mem_append_right _ hpm)
 ·
  rw [List.filterMap_append, List.nodup_append]
  refine ⟨g.apart, ha2, fun x hx y hy e => ?_⟩
  subst e
  obtain ⟨o1, hpN⟩ := Ko hx
  obtain ⟨o2, hqR⟩ := Ko hy
  have hlt := hp.lt (List.mem_append_right Hm hqR)
  rcases g.low x o1 hpN with hl | hl
  · omega
  · exact ha3 _ (hM _ hl) _ hy rfl
theorem Inv.join0 (h : Inv w0 M w H) (g : Inv w [] w' N) : Inv w0 M w' (N ++ H) := h.join (Hm := []) (List.Perm.refl _) (by simp) g
theorem Inv.cell_own (h : Inv w0 M w H) {cs : Array Value} {T : TypeId} {fr : Nat × Nat} (hm : (some b, .cells cs T fr) ∈ H) (off : Nat) : w.cell? ⟨b, off, none⟩ = cs[off]? := by
 have := h.own _ _ hm
 simp [World.cell?, this]
theorem Inv.frozen_own (h : Inv w0 M w H) {cs : Array Value} {T : TypeId} (hm : (some b, .cells cs T (0, 0)) ∈ H) (off : Nat) : w.frozen? ⟨b, off, none⟩ = false := by
 have := h.own _ _ hm
 simp [World.frozen?, this]
theorem Inv.cell_old (h : Inv w0 M w H) {a : Addr} {v : Value} (hc : w0.cell? a = some v) (hm : a.block ∉ M) : w.cell? a = some v := by
 have hb : a.block < w0.heap.size := by
  unfold World.cell? at hc
  split at hc
  ·
   rename_i he
   exact (Array.getElem?_eq_some_iff.1 he).1
  · cases hc
 have := h.keep a.block hb hm
 unfold World.cell? at *
 rw [this]
 exact hc
end inv
structure Cx where
  P : Program
  ρ : Option Nat
  n : Nat
  D : List Deferred
  w0 : World
  M : List Nat
def FW (ρ : Option Nat) : Fence := { fn := fun _ => True, depth := none, alive := false, round := ρ }
def T (C : Cx) (c : Code) (Q : Exit → Act → World → Prop) (E : Env) (H : Heap) : Prop :=
  ∀ a w, Fits C.n C.D E a → Inv C.w0 C.M w H → c.wpIn (FW C.ρ) 0 C.P Q a w
def TO (C : Cx) (ops : Array Oper) (Q : Exit → Act → World → Prop) (l : List Nat) (E : Env) (H : Heap) : Prop :=
  ∀ a w, Fits C.n C.D E a → Inv C.w0 C.M w H → wpOpsIn (FW C.ρ) 0 C.P ops Q l a w
def X (C : Cx) (Q : Exit → Act → World → Prop) (e : Exit) (E : Env) (H : Heap) : Prop :=
  ∀ a w, Fits C.n C.D E a → Inv C.w0 C.M w H → Q e a w
def Fnc (P : Program) (f : FuncId) (args : Array Value) (w : World) (M : List Nat) (Post : Value → Heap → Prop) : Prop :=
  Calls P f args w (fun e w' => ∃ v N, Post v N ∧ e = .returned v ∧ Inv w M w' N)
def Vw (w : World) (M : List Nat) (Post : Value → Heap → Prop) : Ending → World → Prop := fun e w' => ∃ v N, Post v N ∧ e = .returned v ∧ Inv w M w' N
theorem Fnc.mono {P : Program} {f : FuncId} {args : Array Value} {w : World} {M : List Nat} {A B : Value → Heap → Prop} (h : Fnc P f args w M A) (hab : ∀ v N, A v N → B v N) : Fnc P f args w M B :=
 Calls.mono h fun _ _ ⟨v, N, hA, he, hi⟩ => ⟨v, N, hab v N hA, he, hi⟩
theorem callsIn_FW {ρ : Option Nat} {n : Nat} {P : Program} {f : FuncId} {args : Array Value} {w : World} {R : Ending → World → Prop} : CallsIn (FW ρ) n P f args w R ↔ Calls P f args w R := by
 have : CallsIn (FW ρ) n P f args w R ↔ CallsIn Fence.wide n P f args w R := Iff.rfl
 rw [this]; exact callsIn_wide
section control
variable {C : Cx} {Q : Exit → Act → World → Prop} {E E' : Env} {H H' : Heap} {c x y : Code}
theorem T.weak (h : T C c Q E' H') (hE : ∀ t v, find E' t = some v → find E t = some v) (hH : Pick H' H) : T C c Q E H :=
 fun a w hf hi => h a w (hf.weak hE) (hi.pick hH)
theorem T.mono {Q' : Exit → Act → World → Prop} (h : T C c Q' E H) (hq : ∀ e a w, Q' e a w → Q e a w) : T C c Q E H :=
 fun a w hf hi => wpIn_mono (h a w hf hi) hq
theorem T.skip (h : X C Q .normal E H) : T C .skip Q E H := fun a w hf hi => wpIn_skip (h a w hf hi)
theorem T.ret (h : X C Q .ret E H) : T C .ret Q E H := fun a w hf hi => wpIn_ret (h a w hf hi)
theorem T.exit {id : Nat} (h : X C Q (.exit id) E H) : T C (.exit id) Q E H := fun a w hf hi => wpIn_exit (h a w hf hi)
theorem Zo (h : T C x (Exit.then (y.wpIn (FW C.ρ) 0 C.P Q) Q) E H) : T C (.seq x y) Q E H := fun a w hf hi => wpIn_seq (h a w hf hi)
theorem T.block {id : Nat} (h : T C c (Exit.inBlock id Q) E H) : T C (.block id c) Q E H := fun a w hf hi => wpIn_block (h a w hf hi)
theorem T.region {id : Nat} {ops : Array Oper} (h : TO C ops Q (List.range ops.size) E H) : T C (.region id ops false) Q E H :=
 fun a w hf hi => wpIn_region (h a w hf hi)
theorem T.cond {o : Operand} {b : Bool} (ho : ev E o = some (.bool b)) (ht : b = true → T C x Q E H) (hf : b = false → T C y Q E H) : T C (.cond o x y) Q E H :=
 fun a w hfit hi => wpIn_cond_split (hfit.ev ho) (fun h => ht h a w hfit hi) (fun h => hf h a w hfit hi)
theorem Xn {o : Operand} {b : Bool} (ho : ev E o = some (.bool b)) (hb : b = true) (ht : T C x Q E H) : T C (.cond o x y) Q E H := T.cond ho (fun _ => ht) (fun h => by rw [hb] at h; cases h)
theorem Wk {o : Operand} {b : Bool} (ho : ev E o = some (.bool b)) (hb : b = false) (hf : T C y Q E H) : T C (.cond o x y) Q E H := T.cond ho (fun h => by rw [hb] at h; cases h) (fun _ => hf)
theorem Xp {o : Operand} {p : Prop} {hp : Decidable p} (ho : ev E o = some (.bool (@decide p hp))) (hb : p) (ht : T C x Q E H) : T C (.cond o x y) Q E H := Xn ho (decide_eq_true hb) ht
theorem Xo {o : Operand} {p : Prop} {hp : Decidable p} (ho : ev E o = some (.bool (@decide p hp))) (hb : ¬p) (hf : T C y Q E H) : T C (.cond o x y) Q E H := Wk ho (decide_eq_false hb) hf
theorem Yh (h : T C y Q E H) : X C (Exit.then (y.wpIn (FW C.ρ) 0 C.P Q) Q) .normal E H := h
theorem Yi {K : Act → World → Prop} (h : X C Q .ret E H) : X C (Exit.then K Q) .ret E H := h
theorem Xg {K : Act → World → Prop} {id : Nat} (h : X C Q (.exit id) E H) : X C (Exit.then K Q) (.exit id) E H := h
theorem Xf {id : Nat} (h : X C Q .normal E H) : X C (Exit.inBlock id Q) .normal E H := h
theorem Xm {id : Nat} (h : X C Q .ret E H) : X C (Exit.inBlock id Q) .ret E H := h
theorem Ww {id : Nat} (h : X C Q .normal E H) : X C (Exit.inBlock id Q) (.exit id) E H := fun a w hf hi => by
 simp only [Exit.inBlock, if_true]; exact h a w hf hi
def Since (D : List Nat) (E0 E : Env) : Prop := ∀ t v, t ∉ D → find E0 t = some v → find E t = some v
theorem Since.refl {D : List Nat} {E0 : Env} : Since D E0 E0 := fun _ _ _ h => h
theorem Since.put {D : List Nat} {E0 : Env} {d : Nat} {v : Value} (h : Since D E0 E) (hd : D.any (Nat.beq d) = true) : Since D E0 ((d, v) :: E) := fun t u ht hu => by
 rw [Wo, if_neg]
 · exact h t u ht hu
 · rintro rfl; exact ht (any_beq.1 hd)
end control
end Go.Acq
namespace Go.Acq
open Go Go.RowKit
section
variable {C : Cx} {Q : Exit → Act → World → Prop} {E : Env} {H : Heap} {c x y : Code}
end
end Go.Acq
namespace Go.Acq
open Go Go.RowKit
def Yr (P : Program) (t : TypeId) : Bool :=
  match P.underlying t with
  | some (.struct _) | some (.array _ _) | none => false
  | _ => (P.info? t).map (·.size) == some 1
def Xu (P : Program) (t : TypeId) (k : Nat) : Bool :=
  match P.underlying t with
  | some (.struct _) | some (.array _ _) => (P.info? t).map (·.size) == some k
  | _ => false
def Zq (P : Program) (t : TypeId) : Option Nat := (P.info? t).map (·.size)
def Xi (P : Program) (t : TypeId) : Option Nat := (P.info? t).map (·.bytes)
def Yl (P : Program) (t : TypeId) : Option Value := (P.info? t).bind (·.zero)
def Zr (P : Program) (t : TypeId) : Option TypeId :=
  match P.underlying t with
  | some (.slice e) => some e
  | _ => none
def Xd (P : Program) (s : TypeId) (f : Nat) : Option Nat :=
  match P.underlying s with
  | some (.struct fs) => (fs[f]?).bind fun g => (P.info? g.type).bind fun i => if i.size = 0 then none else some g.offset
  | _ => none
def Vi (P : Program) (t : TypeId) : Option IntKind :=
  match P.underlying t with
  | some (.int k) => some k
  | _ => none
section types
variable {P : Program} {t e s : TypeId} {k f o : Nat} {w : World}
theorem Xt (h : Zr P t = some e) : P.underlying t = some (.slice e) := by
 unfold Zr at h
 split at h
 · injection h with h; subst h; assumption
 · cases h
theorem Z10 {q : IntKind} (h : Vi P t = some q) : P.underlying t = some (.int q) := by
 unfold Vi at h
 split at h
 · injection h with h; subst h; assumption
 · cases h
theorem Vh (h : Zq P t = some k) : ∃ i, P.info? t = some i ∧ i.size = k := by
 unfold Zq at h
 cases hi : P.info? t with
 | none => simp [hi] at h
 | some i => exact ⟨i, rfl, by simpa [hi] using h⟩
theorem Wp (h : Zq P t = some k) : (sizeOf t).run P w = .ok k w := by
 obtain ⟨i, hi, rfl⟩ := Vh h
 simp [sizeOf, typeInfo, hi]
theorem No {z : Value} (h : Yl P t = some z) : (zeroValue t).run P w = .ok z w := by
 unfold Yl at h
 cases hi : P.info? t with
 | none => simp [hi] at h
 | some i => simp [hi] at h; simp [zeroValue, typeInfo, hi, h]
theorem Z21 (h : Yr P t = true) : (isAgg t).run P w = .ok false w := by
 unfold Yr at h
 cases hu : P.underlying t with
 | none => simp [hu] at h
 | some d => cases d <;> simp_all [isAgg, run_underlying hu]
theorem Ro (h : Xu P t k = true) : (isAgg t).run P w = .ok true w := by
 unfold Xu at h
 cases hu : P.underlying t with
 | none => simp [hu] at h
 | some d => cases d <;> simp_all [isAgg, run_underlying hu]
theorem Rr (h : Xu P t k = true) : Zq P t = some k := by
 unfold Xu at h
 unfold Zq
 split at h <;> simp_all
theorem Nf (h : Yr P t = true) {a : Addr} {v : Value} (hc : w.cell? a = some v) : (loadVar t a).run P w = .ok v w := by
 simp [loadVar, Z21 h, hc]
theorem Z06 (h : Xu P t k = true) {a : Addr} {cs : List Value} (hk : cs.length = k) (hc : ∀ j v, cs[j]? = some v → w.cell? (a.add j) = some v) :
    (loadVar t a).run P w = .ok (.agg cs.toArray) w := by
  have hl := run_loadCells_list (P := P) w a cs hc
  rw [hk] at hl
  simp [loadVar, Ro h, Wp (Rr h), hl]
theorem Z0j (h : Xd P s f = some o) (b p : Nat) : (Instr.fieldAt s (.pointer (some ⟨b, p, none⟩)) f).run P w = .ok (.pointer (some ⟨b, p + o, none⟩)) w := by
 unfold Xd at h
 split at h
 ·
  rename_i fs hu
  cases hg : fs[f]? with
  | none => simp [hg] at h
  | some g =>
   cases hi : P.info? g.type with
   | none => simp [hg, hi] at h
   | some i =>
    simp only [hg, hi, Option.bind_some] at h
    by_cases hz : i.size = 0
    · simp [hz] at h
    ·
     simp [hz] at h
     subst h
     simp [Instr.fieldAt, run_underlying hu, hg, Instr.sureAddr, fieldPlace, sizeOf, typeInfo, hi, hz, Addr.add_mid]
 · cases h
end types
theorem Inv.setRow {w0 w : World} {M : List Nat} {H R : Heap} {b : Nat} {cs cs' : Array Value} {T : TypeId} {fr : Nat × Nat} (h : Inv w0 M w H) (ht : Take (some b, .cells cs T fr) H R) :
    Inv w0 M (w.setRow b cs') ((some b, .cells cs' T fr) :: R) := by
  have hb := h.own _ _ ht.mem
  refine h.upd ht rfl rfl rfl (by simp [World.setRow]) ?_ fun k hk => ?_
  · simp only [World.setRow, Array.getElem?_modify, hb]; simp
  · simp only [World.setRow, Array.getElem?_modify]
    rw [if_neg (by omega)]
section rules
variable {C : Cx} {ops : Array Oper} {Q : Exit → Act → World → Prop} {l : List Nat} {E : Env} {H R : Heap} {i d : Nat} {ty : TypeId} {pos : String} {af : Array Edge} {g : Option (Nat × Bool)}
def Zg (ops : Array Oper) (E : Env) : Option (Nat × Bool) → Bool
  | none => true
  | some (j, want) =>
    match ((ops[j]?).bind (·.dst)).bind (find E) with
    | some (.bool b) => b == want
    | _ => false
def gdN (ops : Array Oper) (E : Env) : Option (Nat × Bool) → Bool
  | none => false
  | some (j, want) =>
    match ((ops[j]?).bind (·.dst)).bind (find E) with
    | some (.bool b) => b != want
    | _ => false
theorem Fits.yields {n : Nat} {D : List Deferred} {a : Act} (hf : Fits n D E a) {j t : Nat} {b : Bool} (hj : (ops[j]?).bind (·.dst) = some t) (ht : find E t = some (.bool b)) : yielded ops a.tmps j = some b := by
 have h := hf.get t _ ht
 unfold yielded
 rw [hj, Option.bind_some]
 have h2 : a.tmps[t]? = some (.bool b) := by
  rw [Array.getD_eq_getD_getElem?] at h
  cases hq : a.tmps[t]? with
  | none => rw [hq] at h; simp [undef] at h
  | some u => rw [hq] at h; simpa using h
 rw [h2]
theorem Z17 {n : Nat} {D : List Deferred} {a : Act} {o : Oper} (hf : Fits n D E a) (h : Zg ops E o.guard = true) : Region.wanted o (yielded ops a.tmps) = true := by
 unfold Region.wanted
 cases hg : o.guard with
 | none => rfl
 | some jw =>
  obtain ⟨j, want⟩ := jw
  rw [hg] at h
  simp only [Zg] at h
  cases hj : (ops[j]?).bind (·.dst) with
  | none => simp [hj] at h
  | some t =>
   rw [hj, Option.bind_some] at h
   cases ht : find E t with
   | none => simp [ht] at h
   | some v =>
    rw [ht] at h
    cases v <;> simp at h
    subst h
    simp [hf.yields hj ht]
theorem Z1y {n : Nat} {D : List Deferred} {a : Act} {o : Oper} (hf : Fits n D E a) (h : gdN ops E o.guard = true) : Region.wanted o (yielded ops a.tmps) = false := by
 unfold Region.wanted
 cases hg : o.guard with
 | none => rw [hg] at h; simp [gdN] at h
 | some jw =>
  obtain ⟨j, want⟩ := jw
  rw [hg] at h
  simp only [gdN] at h
  cases hj : (ops[j]?).bind (·.dst) with
  | none => simp [hj] at h
  | some t =>
   rw [hj, Option.bind_some] at h
   cases ht : find E t with
   | none => simp [ht] at h
   | some v =>
    rw [ht] at h
    cases v <;> simp at h
    simp [hf.yields hj ht, h]
theorem Jc {o : Oper} (ho : ops[i]? = some o) (hg : Zg ops E o.guard = true) (hnd : ∀ c, o.op ≠ .defer c)
    (h : ∀ a w, Fits C.n C.D E a → Inv C.w0 C.M w H → o.uponIn (FW C.ρ) 0 C.P a (wpOpsIn (FW C.ρ) 0 C.P ops Q l) Q ((execOp a.eval o).run C.P w)) :
    TO C ops Q (i :: l) E H := by
  intro a w hf hi
  have hw : Region.wanted o (yielded ops a.tmps) = true := Z17 hf hg
  simp only [wpOpsIn, ho, hw, if_true, Oper.wpIn]
  refine ⟨fun _ _ => trivial, ?_⟩
  rw [Oper.semAt_eq _ _ _ hnd]
  exact h a w hf hi
theorem Zh {o : Oper} (q0_ : ops[i]? = some o ∧ gdN ops E o.guard = true ∧ o.dst = some d ∧ Nat.ble (d + 1) C.n = true) (k : TO C ops Q l ((d, undef) :: E) H) : TO C ops Q (i :: l) E H := by
 obtain ⟨ho, hg, hdst, hd⟩ := q0_
 intro a w hf hi
 have hw : Region.wanted o (yielded ops a.tmps) = false := Z1y hf hg
 simp only [wpOpsIn, ho, hw, Bool.false_eq_true, if_false]
 refine ⟨fun _ _ => trivial, ?_⟩
 rw [hdst]
 exact k _ _ (hf.put hd _) hi
theorem Zy {t : Nat} {b b' : Bool} (ht : find E t = some (.bool b)) (hb : b = b') (k : TO C ops Q l ((t, .bool b') :: E) H) : TO C ops Q l E H := by
 subst hb
 intro a w hf hi
 refine k a w ⟨hf.size, hf.defers, fun u v hu => ?_⟩ hi
 rw [Wo] at hu
 by_cases e : t = u
 · subst e; rw [if_pos rfl] at hu; injection hu with hu; subst hu; exact hf.get t _ ht
 · rw [if_neg e] at hu; exact hf.get u v hu
theorem Zi (h : X C Q .normal E H) : TO C ops Q [] E H := h
theorem TO.val {op : Op} {v : Value} (ho : ops[i]? = some ⟨some d, op, ty, pos, af, g⟩) (hg : Zg ops E g = true) (hd : Nat.ble (d + 1) C.n = true) (hnd : ∀ c, op ≠ .defer c)
    (hr : ∀ a w, Fits C.n C.D E a → Inv C.w0 C.M w H → (execOp a.eval ⟨some d, op, ty, pos, af, g⟩).run C.P w = .ok (.value v) w)
    (k : TO C ops Q l ((d, v) :: E) H) : TO C ops Q (i :: l) E H :=
  Jc ho hg hnd fun a w hf hi => by
    rw [hr a w hf hi]
    exact k _ _ (hf.put hd v) hi
theorem Zb {x : Operand} {v : Value} (q0_ : ops[i]? = some ⟨some d, .move x, ty, pos, af, g⟩ ∧ Zg ops E g = true ∧ Nat.ble (d + 1) C.n = true ∧ ev E x = some v)
    (k : TO C ops Q l ((d, v) :: E) H) : TO C ops Q (i :: l) E H := have ⟨ho, hg, hd, hx⟩ := q0_;
  TO.val ho hg hd (by simp) (fun a w hf _ => by simp [execOp, hf.ev hx]) k
theorem Yq {x : Operand} {v : Value} (q0_ : ops[i]? = some ⟨some d, .assign x, ty, pos, af, g⟩ ∧ Zg ops E g = true ∧ Nat.ble (d + 1) C.n = true ∧ ev E x = some v)
    (k : TO C ops Q l ((d, v) :: E) H) : TO C ops Q (i :: l) E H := have ⟨ho, hg, hd, hx⟩ := q0_;
  TO.val ho hg hd (by simp) (fun a w hf _ => by simp [execOp, hf.ev hx]) k
theorem Yv {c x y : Operand} {v : Value} (q0_ : ops[i]? = some ⟨some d, .pick c x y, ty, pos, af, g⟩ ∧ Zg ops E g = true ∧ Nat.ble (d + 1) C.n = true ∧ ev E c = some (.bool true) ∧ ev E x = some v) (k : TO C ops Q l ((d, v) :: E) H) : TO C ops Q (i :: l) E H := have ⟨ho, hg, hd, hc, hx⟩ := q0_;
  TO.val ho hg hd (by simp) (fun a w hf _ => by simp [execOp, hf.ev hc, hf.ev hx, asBool]) k
theorem Yw {c x y : Operand} {v : Value} (q0_ : ops[i]? = some ⟨some d, .pick c x y, ty, pos, af, g⟩ ∧ Zg ops E g = true ∧ Nat.ble (d + 1) C.n = true ∧ ev E c = some (.bool false) ∧ ev E y = some v) (k : TO C ops Q l ((d, v) :: E) H) : TO C ops Q (i :: l) E H := have ⟨ho, hg, hd, hc, hx⟩ := q0_;
  TO.val ho hg hd (by simp) (fun a w hf _ => by simp [execOp, hf.ev hc, hf.ev hx, asBool]) k
def Uu : BinOp → IntKind → Int → Int → Option Value
  | .add, k, a, b => some (.int k (k.wrap (a + b)))
  | .sub, k, a, b => some (.int k (k.wrap (a - b)))
  | .mul, k, a, b => some (.int k (k.wrap (a * b)))
  | .eql, _, a, b => some (.bool (decide (a = b)))
  | .neq, _, a, b => some (.bool (decide (a ≠ b)))
  | .lss, _, a, b => some (.bool (decide (a < b)))
  | .leq, _, a, b => some (.bool (decide (a ≤ b)))
  | .gtr, _, a, b => some (.bool (decide (b < a)))
  | .geq, _, a, b => some (.bool (decide (b ≤ a)))
  | _, _, _, _ => none
theorem Ui {op : BinOp} {k : IntKind} {a b : Int} {v : Value} {t : TypeId} {P : Program} {w : World} (h : Uu op k a b = some v) : (binOp op t (.int k a) (.int k b)).run P w = .ok v w := by
 unfold Uu at h
 split at h <;> try (cases h; done)
 all_goals (injection h with h; subst h)
 · simp [binOp, Op.intArith]
 · simp [binOp, Op.intArith]
 · simp [binOp, Op.intArith]
 · simp only [binOp_eql]; rw [Sem.run_pure]; congr 2
 · simp only [binOp_neq]; rw [Sem.run_pure]; congr 2; by_cases e : a = b <;> simp [e]
 · simp [binOp, Op.intCmp]
 · simp [binOp, Op.intCmp]
 · simp [binOp, Op.intCmp]
 · simp [binOp, Op.intCmp]
theorem Zn {op : BinOp} {t t2 : TypeId} {x y : Operand} {k : IntKind} {p q : Int} {v : Value}
    (q0_ : ops[i]? = some ⟨some d, .binOp op t x y t2, ty, pos, af, g⟩ ∧ Zg ops E g = true ∧ Nat.ble (d + 1) C.n = true ∧ ev E x = some (.int k p) ∧ ev E y = some (.int k q) ∧ Uu op k p q = some v) (kk : TO C ops Q l ((d, v) :: E) H) : TO C ops Q (i :: l) E H := have ⟨ho, hg, hd, hx, hy, hv⟩ := q0_;
  TO.val ho hg hd (by simp) (fun a w hf _ => by simp [execOp, hf.ev hx, hf.ev hy, eqGuard_at_int, Ui hv]) kk
theorem Lt {a : Int} (h1 : -9223372036854775808 ≤ a) (h2 : a ≤ 9223372036854775807) : IntKind.i64.wrap a = a := by
 rw [IntKind.wrap_i64]; omega
theorem TO.add {t t2 : TypeId} {x y : Operand} {p q : Int}
    (ho : ops[i]? = some ⟨some d, .binOp .add t x y t2, ty, pos, af, g⟩) (hg : Zg ops E g = true) (hd : Nat.ble (d + 1) C.n = true) (hx : ev E x = some (.int .i64 p)) (hy : ev E y = some (.int .i64 q))
    (h1 : -9223372036854775808 ≤ p + q) (h2 : p + q ≤ 9223372036854775807) (kk : TO C ops Q l ((d, .int .i64 (p + q)) :: E) H) : TO C ops Q (i :: l) E H :=
  Zn ⟨ho, hg, hd, hx, hy, (by simp only [Uu]; rw [Lt h1 h2])⟩ kk
theorem TO.sub {t t2 : TypeId} {x y : Operand} {p q : Int}
    (ho : ops[i]? = some ⟨some d, .binOp .sub t x y t2, ty, pos, af, g⟩) (hg : Zg ops E g = true) (hd : Nat.ble (d + 1) C.n = true) (hx : ev E x = some (.int .i64 p)) (hy : ev E y = some (.int .i64 q))
    (h1 : -9223372036854775808 ≤ p - q) (h2 : p - q ≤ 9223372036854775807) (kk : TO C ops Q l ((d, .int .i64 (p - q)) :: E) H) : TO C ops Q (i :: l) E H :=
  Zn ⟨ho, hg, hd, hx, hy, (by simp only [Uu]; rw [Lt h1 h2])⟩ kk
theorem TO.rem {t t2 : TypeId} {x y : Operand} {k : IntKind} {p q : Int}
    (q0_ : ops[i]? = some ⟨some d, .binOp .rem t x y t2, ty, pos, af, g⟩ ∧ Zg ops E g = true ∧ Nat.ble (d + 1) C.n = true ∧ ev E x = some (.int k p) ∧ ev E y = some (.int k q))
    (h0 : q ≠ 0) (kk : TO C ops Q l ((d, .int k (p.tmod q)) :: E) H) : TO C ops Q (i :: l) E H := have ⟨ho, hg, hd, hx, hy⟩ := q0_;
  TO.val ho hg hd (by simp) (fun a w hf _ => by simp [execOp, hf.ev hx, hf.ev hy, eqGuard_at_int, binOp, Op.intDiv, h0]) kk
theorem Z3s {P : Program} (w : World) (n : Nat) {t : TypeId} (p q : Bool) (ht : P.underlying t = some .bool) : (Op.equalIn (n + 1) t (.bool p) (.bool q)).run P w = .ok (p == q) w := by
 simp [Op.equalIn, run_underlying ht]
theorem Z09 {P : Program} (w : World) (n : Nat) {t e : TypeId} (base : Option Addr) (a c m c2 : Nat) (ht : P.underlying t = some (.slice e)) : (Op.equalIn (n + 1) t (.slice base a c) (.slice none m c2)).run P w = .ok base.isNone w := by
 cases base <;> simp [Op.equalIn, run_underlying ht]
theorem Uj {P : Program} {w : World} {t : TypeId} {x y : Value} {r : Bool} (h : ∀ n, (Op.equalIn (n + 1) t x y).run P w = .ok r w) : (Op.equal t x y).run P w = .ok r w := h 9999
theorem Z1g {P : Program} {w : World} {t : TypeId} {x y : Value} {r : Bool} (h : (Op.equal t x y).run P w = .ok r w) (hb : binOp .eql t x y = (do pure (.bool (← Op.equal t x y)))) :
    (binOp .eql t x y).run P w = .ok (.bool r) w := by rw [hb]; simp [h]
theorem Z3f {P : Program} {w : World} {t : TypeId} {x y : Value} {r : Bool} (h : (Op.equal t x y).run P w = .ok r w) (hb : binOp .neq t x y = (do pure (.bool (!(← Op.equal t x y))))) :
    (binOp .neq t x y).run P w = .ok (.bool (!r)) w := by rw [hb]; simp [h]
theorem TO.not {t : TypeId} {x : Operand} {b : Bool} (q0_ : ops[i]? = some ⟨some d, .unOp .not t x, ty, pos, af, g⟩ ∧ Zg ops E g = true ∧ Nat.ble (d + 1) C.n = true ∧ ev E x = some (.bool b)) (kk : TO C ops Q l ((d, .bool (!b)) :: E) H) : TO C ops Q (i :: l) E H := have ⟨ho, hg, hd, hx⟩ := q0_;
  TO.val ho hg hd (by simp) (fun a w hf _ => by simp [execOp, hf.ev hx, Op.unary]) kk
theorem TO.neg {t : TypeId} {x : Operand} {k : IntKind} {p : Int} (ho : ops[i]? = some ⟨some d, .unOp .neg t x, ty, pos, af, g⟩) (hg : Zg ops E g = true) (hd : Nat.ble (d + 1) C.n = true)
    (hx : ev E x = some (.int k p)) (kk : TO C ops Q l ((d, .int k (k.wrap (-p))) :: E) H) : TO C ops Q (i :: l) E H :=
  TO.val ho hg hd (by simp) (fun a w hf _ => by simp [execOp, hf.ev hx, Op.unary, Op.intArith]) kk
theorem TO.conv {s t : TypeId} {x : Operand} {k q : IntKind} {p : Int} (ho : ops[i]? = some ⟨some d, .convert s t x, ty, pos, af, g⟩) (hg : Zg ops E g = true) (hd : Nat.ble (d + 1) C.n = true)
    (hx : ev E x = some (.int k p)) (hs : (C.P.underlying s).isSome = true) (ht : Vi C.P t = some q) (kk : TO C ops Q l ((d, .int q (q.wrap p)) :: E) H) : TO C ops Q (i :: l) E H :=
  TO.val ho hg hd (by simp) (fun a w hf _ => by
    have hu := Z10 ht
    cases hs' : C.P.underlying s with
    | none => simp [hs'] at hs
    | some ds => simp [execOp, hf.ev hx, convert, run_underlying hs', run_underlying hu, Conv.intToInt]) kk
theorem Z2r {s t : TypeId} {x : Operand} {k q : IntKind} {p : Int} (q0_ : ops[i]? = some ⟨some d, .convert s t x, ty, pos, af, g⟩ ∧ Zg ops E g = true ∧ Nat.ble (d + 1) C.n = true ∧ ev E x = some (.int k p)) (hs : (C.P.underlying s).isSome = true) (ht : Vi C.P t = some q) (hw : q.wrap p = p) (kk : TO C ops Q l ((d, .int q p) :: E) H) : TO C ops Q (i :: l) E H := have ⟨ho, hg, hd, hx⟩ := q0_;
  TO.conv ho hg hd hx hs ht (by rw [hw]; exact kk)
theorem TO.extract {x : Operand} {n : Nat} {vs : Array Value} {v : Value} (q0_ : ops[i]? = some ⟨some d, .extract x n, ty, pos, af, g⟩ ∧ Zg ops E g = true ∧ Nat.ble (d + 1) C.n = true ∧ ev E x = some (.tuple vs) ∧ vs[n]? = some v) (kk : TO C ops Q l ((d, v) :: E) H) : TO C ops Q (i :: l) E H := have ⟨ho, hg, hd, hx, hv⟩ := q0_;
  TO.val ho hg hd (by simp) (fun a w hf _ => by simp [execOp, hf.ev hx, Instr.extract, hv]) kk
def evs (E : Env) : List Operand → Option (List Value)
  | [] => some []
  | x :: xs => match ev E x, evs E xs with
    | some v, some vs => some (v :: vs)
    | _, _ => none
theorem Jm {n : Nat} {D : List Deferred} {a : Act} (hfit : Fits n D E a) : ∀ {xs : List Operand} {ys : List Value}, evs E xs = some ys → xs.map a.eval = ys
 | [], ys, h => by simp [evs] at h; subst h; rfl
 | x :: xs, ys, h => by
  simp only [evs] at h
  cases hx : ev E x with
  | none => simp [hx] at h
  | some v =>
   cases hxs : evs E xs with
   | none => simp [hx, hxs] at h
   | some vs => simp [hx, hxs] at h; subst h; simp [hfit.ev hx, Jm hfit hxs]
def evp (E : Env) : List (Nat × Operand) → Option (List (Nat × Value))
  | [] => some []
  | (j, x) :: xs => match ev E x, evp E xs with
    | some v, some vs => some ((j, v) :: vs)
    | _, _ => none
theorem Rq {n : Nat} {D : List Deferred} {a : Act} (hfit : Fits n D E a) : ∀ {xs : List (Nat × Operand)} {ys : List (Nat × Value)}, evp E xs = some ys → xs.map (fun p => (p.1, a.eval p.2)) = ys
 | [], ys, h => by simp [evp] at h; subst h; rfl
 | (j, x) :: xs, ys, h => by
  simp only [evp] at h
  cases hx : ev E x with
  | none => simp [hx] at h
  | some v =>
   cases hxs : evp E xs with
   | none => simp [hx, hxs] at h
   | some vs => simp [hx, hxs] at h; subst h; simp [hfit.ev hx, Rq hfit hxs]
theorem TO.makeFunc {f : Fn} {fs cs : Array Operand} {vs us : List Value} (q0_ : ops[i]? = some ⟨some d, .makeFunc f fs cs, ty, pos, af, g⟩ ∧ Zg ops E g = true ∧ Nat.ble (d + 1) C.n = true ∧ evs E fs.toList = some vs ∧ evs E cs.toList = some us) (kk : TO C ops Q l ((d, .func f vs.toArray us.toArray) :: E) H) : TO C ops Q (i :: l) E H := have ⟨ho, hg, hd, hf, hc⟩ := q0_;
  TO.val ho hg hd (by simp) (fun a w hfit _ => by
    have e1 : fs.map a.eval = vs.toArray := by apply Array.ext'; simpa using Jm hfit hf
    have e2 : cs.map a.eval = us.toArray := by apply Array.ext'; simpa using Jm hfit hc
    simp [execOp, Instr.makeFunc, e1, e2]) kk
theorem TO.fieldAddr {s : TypeId} {x : Operand} {f o b p : Nat} (ho : ops[i]? = some ⟨some d, .fieldAddr s x f, ty, pos, af, g⟩) (hg : Zg ops E g = true) (hd : Nat.ble (d + 1) C.n = true)
    (hx : ev E x = some (.pointer (some ⟨b, p, none⟩))) (hT : Xd C.P s f = some o) (kk : TO C ops Q l ((d, .pointer (some ⟨b, p + o, none⟩)) :: E) H) : TO C ops Q (i :: l) E H :=
  TO.val ho hg hd (by simp) (fun a w hf _ => by simp [execOp, hf.ev hx, Z0j hT]) kk
theorem Zk {s : TypeId} {x : Operand} {f o b : Nat} (q0_ : ops[i]? = some ⟨some d, .fieldAddr s x f, ty, pos, af, g⟩ ∧ Zg ops E g = true ∧ Nat.ble (d + 1) C.n = true ∧ ev E x = some (.pointer (some ⟨b, 0, none⟩))) (hT : Xd C.P s f = some o) (kk : TO C ops Q l ((d, .pointer (some ⟨b, o, none⟩)) :: E) H) : TO C ops Q (i :: l) E H := have ⟨ho, hg, hd, hx⟩ := q0_;
  TO.fieldAddr ho hg hd hx hT (by rw [Nat.zero_add]; exact kk)
theorem TO.new {op : Op} {o : Obj} (v : Nat → Value) (ho : ops[i]? = some ⟨some d, op, ty, pos, af, g⟩) (hg : Zg ops E g = true) (hd : Nat.ble (d + 1) C.n = true) (hnd : ∀ c, op ≠ .defer c)
    (hr : ∀ a w, Fits C.n C.D E a → Inv C.w0 C.M w H → (execOp a.eval ⟨some d, op, ty, pos, af, g⟩).run C.P w = .ok (.value (v w.heap.size)) (w.alloc o))
    (k : ∀ b, TO C ops Q l ((d, v b) :: E) ((some b, o) :: H)) : TO C ops Q (i :: l) E H :=
  Jc ho hg hnd fun a w hf hi => by
    rw [hr a w hf hi]
    exact k _ _ _ (hf.put hd _) (hi.alloc o)
theorem TO.box {t : TypeId} {x : Operand} {v : Value} (q0_ : ops[i]? = some ⟨some d, .box t x, ty, pos, af, g⟩ ∧ Zg ops E g = true ∧ Nat.ble (d + 1) C.n = true ∧ ev E x = some v)
    (k : ∀ b, TO C ops Q l ((d, .pointer (some ⟨b, 0, none⟩)) :: E) ((some b, .cells v.cells t (0, 0)) :: H)) : TO C ops Q (i :: l) E H := have ⟨ho, hg, hd, hx⟩ := q0_;
  TO.new (fun b => .pointer (some ⟨b, 0, none⟩)) ho hg hd (by simp) (fun a w hf _ => by simp [execOp, hf.ev hx, Instr.box, newVar, newRow]) k
theorem Xj {t : TypeId} {x : Operand} {cs : Array Value} (q0_ : ops[i]? = some ⟨some d, .box t x, ty, pos, af, g⟩ ∧ Zg ops E g = true ∧ Nat.ble (d + 1) C.n = true ∧ ev E x = some (.agg cs))
    (k : ∀ b, TO C ops Q l ((d, .pointer (some ⟨b, 0, none⟩)) :: E) ((some b, .cells cs t (0, 0)) :: H)) : TO C ops Q (i :: l) E H := have ⟨ho, hg, hd, hx⟩ := q0_; TO.box ⟨ho, hg, hd, hx⟩ k
theorem TO.alloc {t : TypeId} {z : Value} (ho : ops[i]? = some ⟨some d, .alloc t, ty, pos, af, g⟩) (hg : Zg ops E g = true) (hd : Nat.ble (d + 1) C.n = true) (hz : Yl C.P t = some z)
    (k : ∀ b, TO C ops Q l ((d, .pointer (some ⟨b, 0, none⟩)) :: E) ((some b, .cells z.cells t (0, 0)) :: H)) : TO C ops Q (i :: l) E H :=
  TO.new (fun b => .pointer (some ⟨b, 0, none⟩)) ho hg hd (by simp) (fun a w hf _ => by simp [execOp, Instr.alloc, No hz, newVar, newRow]) k
theorem Wh {t : TypeId} {cs : Array Value} (q0_ : ops[i]? = some ⟨some d, .alloc t, ty, pos, af, g⟩ ∧ Zg ops E g = true ∧ Nat.ble (d + 1) C.n = true) (hz : Yl C.P t = some (.agg cs))
    (k : ∀ b, TO C ops Q l ((d, .pointer (some ⟨b, 0, none⟩)) :: E) ((some b, .cells cs t (0, 0)) :: H)) : TO C ops Q (i :: l) E H := have ⟨ho, hg, hd⟩ := q0_; TO.alloc ho hg hd hz k
theorem TO.build {t : TypeId} {ps : Array (Nat × Operand)} {vs : List (Nat × Value)} {cs : Array Value} (ho : ops[i]? = some ⟨some d, .build t ps, ty, pos, af, g⟩) (hg : Zg ops E g = true) (hd : Nat.ble (d + 1) C.n = true)
    (hx : evp E ps.toList = some vs) (hb : C.P.built t vs = some cs)
    (kk : TO C ops Q l ((d, .agg cs) :: E) H) : TO C ops Q (i :: l) E H :=
  TO.val ho hg hd (by simp) (fun a w hf _ => by
    have e1 : (ps.map (fun p => (p.1, a.eval p.2))).toList = vs := by simpa using Rq hf hx
    have := run_build (P := C.P) w t (ps.map (fun p => (p.1, a.eval p.2))) cs (by rw [e1]; exact hb)
    simp [execOp, this]) kk
theorem Z3x {t e : TypeId} {x y : Operand} {cs : List Value} {k : IntKind} {p : Int} {n s : Nat} {vs : List Value} (ho : ops[i]? = some ⟨some d, .index t x y, ty, pos, af, g⟩) (hg : Zg ops E g = true) (hd : Nat.ble (d + 1) C.n = true)
    (hx : ev E x = some (.agg cs.toArray)) (hy : ev E y = some (.int k p)) (hT : C.P.underlying t = some (.array n e)) (hs : Xu C.P e s = true) (h0 : 0 ≤ p) (h1 : p < n) (hv : (cs.drop (p.toNat * s)).take s = vs)
    (kk : TO C ops Q l ((d, .agg vs.toArray) :: E) H) : TO C ops Q (i :: l) E H :=
  TO.val ho hg hd (by simp) (fun a w hf _ => by
    simp [execOp, hf.ev hx, hf.ev hy, Instr.index, asIntOf, run_underlying hT, h0, h1, Wp (Rr hs), part, Ro hs, hv]) kk
def setCells : List Value → Nat → List Value → List Value
  | z, _, [] => z
  | z, o, v :: vs => setCells (z.set o v) (o + 1) vs
def Xh (offs : List Nat) : List Value → List (Nat × Value) → List Value
  | z, [] => z
  | z, (j, v) :: ps => Xh offs (setCells z (offs.getD j 0) v.cells.toList) ps
theorem Wd {t : TypeId} {ps : Array (Nat × Operand)} {vs : List (Nat × Value)} {cs : List Value} (z : List Value) (offs : List Nat) (q0_ : ops[i]? = some ⟨some d, .build t ps, ty, pos, af, g⟩ ∧ Zg ops E g = true ∧ Nat.ble (d + 1) C.n = true ∧ evp E ps.toList = some vs) (_hcs : Xh offs z vs = cs) (hb : C.P.built t vs = some cs.toArray)
    (kk : TO C ops Q l ((d, .agg cs.toArray) :: E) H) : TO C ops Q (i :: l) E H := have ⟨ho, hg, hd, hx⟩ := q0_; TO.build ho hg hd hx hb kk
end rules
end Go.Acq
namespace Go.Acq
open Go Go.RowKit
section rules
variable {C : Cx} {ops : Array Oper} {Q : Exit → Act → World → Prop} {l : List Nat} {E : Env} {H R : Heap} {i d : Nat} {ty : TypeId} {pos : String} {af : Array Edge} {g : Option (Nat × Bool)}
theorem Z38 {id : Nat} {ll : List Nat} (hl : List.range ops.size = ll) (h : TO C ops Q ll E H) : T C (.region id ops false) Q E H := T.region (by rw [hl]; exact h)
theorem TO.load {t : TypeId} {x : Operand} {ad : Addr} {v : Value} (ho : ops[i]? = some ⟨some d, .load t x, ty, pos, af, g⟩) (hg : Zg ops E g = true) (hd : Nat.ble (d + 1) C.n = true)
    (hx : ev E x = some (.pointer (some ad))) (hT : Yr C.P t = true) (hc : ∀ w, Inv C.w0 C.M w H → w.cell? ad = some v)
    (kk : TO C ops Q l ((d, v) :: E) H) : TO C ops Q (i :: l) E H :=
  TO.val ho hg hd (by simp) (fun a w hf hi => by simp [execOp, hf.ev hx, Instr.loadAt, Instr.sureAddr, Nf hT (hc w hi)]) kk
theorem Zm {t T' : TypeId} {x : Operand} {b o : Nat} {cs : Array Value} {fr : Nat × Nat} {v : Value} (q0_ : ops[i]? = some ⟨some d, .load t x, ty, pos, af, g⟩ ∧ Zg ops E g = true ∧ Nat.ble (d + 1) C.n = true ∧ ev E x = some (.pointer (some ⟨b, o, none⟩))) (hT : Yr C.P t = true) (hm : (some b, Obj.cells cs T' fr) ∈ H) (hv : cs[o]? = some v)
    (kk : TO C ops Q l ((d, v) :: E) H) : TO C ops Q (i :: l) E H := have ⟨ho, hg, hd, hx⟩ := q0_;
  TO.load ho hg hd hx hT (fun w hi => by rw [hi.cell_own hm]; exact hv) kk
theorem Rd {t : TypeId} {x : Operand} {ad : Addr} {k : Nat} {cs : List Value} (ho : ops[i]? = some ⟨some d, .load t x, ty, pos, af, g⟩) (hg : Zg ops E g = true) (hd : Nat.ble (d + 1) C.n = true)
    (hx : ev E x = some (.pointer (some ad))) (hT : Xu C.P t k = true) (hk : cs.length = k) (hc : ∀ w, Inv C.w0 C.M w H → ∀ j v, cs[j]? = some v → w.cell? (ad.add j) = some v)
    (kk : TO C ops Q l ((d, .agg cs.toArray) :: E) H) : TO C ops Q (i :: l) E H :=
  TO.val ho hg hd (by simp) (fun a w hf hi => by simp [execOp, hf.ev hx, Instr.loadAt, Instr.sureAddr, Z06 hT hk (hc w hi)]) kk
theorem Yp {t T' : TypeId} {x : Operand} {b k : Nat} {cs : List Value} {fr : Nat × Nat} (q0_ : ops[i]? = some ⟨some d, .load t x, ty, pos, af, g⟩ ∧ Zg ops E g = true ∧ Nat.ble (d + 1) C.n = true ∧ ev E x = some (.pointer (some ⟨b, 0, none⟩))) (hT : Xu C.P t k = true) (hm : (some b, Obj.cells cs.toArray T' fr) ∈ H) (hk : cs.length = k)
    (kk : TO C ops Q l ((d, .agg cs.toArray) :: E) H) : TO C ops Q (i :: l) E H := have ⟨ho, hg, hd, hx⟩ := q0_;
  Rd ho hg hd hx hT hk (fun w hi j v hv => by rw [Addr.add_mid, Nat.zero_add, hi.cell_own hm]; simpa using hv) kk
theorem Nj {t T' : TypeId} {x y : Operand} {b o : Nat} {cs cs' : Array Value} {v : Value} {vs : List Value} (ho : ops[i]? = some ⟨none, .store t x y, ty, pos, af, g⟩) (hg : Zg ops E g = true)
    (hx : ev E x = some (.pointer (some ⟨b, o, none⟩))) (hy : ev E y = some v) (ht : Take (some b, .cells cs T' (0, 0)) H R)
    (hv : v.cells.toList = vs) (hs : Zq C.P t = some vs.length) (h1 : ∀ u, u ∈ vs → u.oneCell' = true) (hfit : o + vs.length ≤ cs.size)
    (hcs : (cs.toList.take o ++ vs ++ cs.toList.drop (o + vs.length)).toArray = cs')
    (kk : TO C ops Q l E ((some b, .cells cs' T' (0, 0)) :: R)) : TO C ops Q (i :: l) E H :=
  Jc ho hg (by simp) fun a w hf hi => by
    have hb := hi.own _ _ ht.mem
    have hst := run_storeCells_at C.P b o T' vs 0 cs w hb (by simpa using hfit) h1
    simp only [Nat.add_zero] at hst
    rw [hcs] at hst
    have hsz : v.cells.size = vs.length := by rw [← hv, Array.length_toList]
    have : (execOp a.eval ⟨none, .store t x y, ty, pos, af, g⟩).run C.P w = .ok .skip (w.setRow b cs') := by
      simp [execOp, hf.ev hx, hf.ev hy, Instr.storeAt, Instr.sureAddr, storeVar, Wp hs, hsz, hv, hst]
    rw [this]
    exact kk _ _ (hf.putNone _) (hi.setRow ht)
theorem Z4w {α : Type} (xs : List α) (o : Nat) (v : α) (h : o < xs.length) : xs.take o ++ [v] ++ xs.drop (o + 1) = xs.set o v := by
 rw [List.set_eq_take_append_cons_drop, if_pos h]; simp
theorem Z51 {t T' : TypeId} {x y : Operand} {b o : Nat} {cs : Array Value} {v : Value} (ho : ops[i]? = some ⟨none, .store t x y, ty, pos, af, g⟩) (hg : Zg ops E g = true)
    (hx : ev E x = some (.pointer (some ⟨b, o, none⟩))) (hy : ev E y = some v) (ht : Take (some b, .cells cs T' (0, 0)) H R)
    (hs : Zq C.P t = some 1) (h1 : v.oneCell' = true) (hfit : Nat.ble (o + 1) cs.size = true)
    (kk : TO C ops Q l E ((some b, .cells (cs.setIfInBounds o v) T' (0, 0)) :: R)) : TO C ops Q (i :: l) E H := by
  have hfit' : o < cs.size := Nat.le_of_ble_eq_true hfit
  have hc : v.cells = #[v] := by cases v <;> first | rfl | cases h1
  refine Nj (vs := [v]) ho hg hx hy ht (by rw [hc]) hs (fun u hu => by simp at hu; subst hu; exact h1) (by simp; omega) ?_ kk
  apply Array.ext'
  simp only [List.length_singleton]
  rw [Z4w cs.toList o v (by simpa using hfit')]
  simp
theorem Z59 {t T' : TypeId} {x y : Operand} {b o : Nat} {cs : List Value} {v : Value} (ho : ops[i]? = some ⟨none, .store t x y, ty, pos, af, g⟩) (hg : Zg ops E g = true)
    (hx : ev E x = some (.pointer (some ⟨b, o, none⟩))) (hy : ev E y = some v) (ht : Take (some b, .cells cs.toArray T' (0, 0)) H R)
    (hs : Zq C.P t = some 1) (h1 : v.oneCell' = true) (hfit : Nat.ble (o + 1) cs.length = true)
    (kk : TO C ops Q l E ((some b, .cells (cs.set o v).toArray T' (0, 0)) :: R)) : TO C ops Q (i :: l) E H :=
  Z51 ho hg hx hy ht hs h1 (by simpa using hfit) (by simpa using kk)
theorem Jg {t T' : TypeId} {x y : Operand} {b o : Nat} {cs cs' : List Value} {v : Value} (q0_ : ops[i]? = some ⟨none, .store t x y, ty, pos, af, g⟩ ∧ Zg ops E g = true ∧ ev E x = some (.pointer (some ⟨b, o, none⟩)) ∧ ev E y = some v) (ht : Take (some b, .cells cs.toArray T' (0, 0)) H R)
    (hs : Zq C.P t = some 1) (q1_ : v.oneCell' = true ∧ Nat.ble (o + 1) cs.length = true ∧ cs.set o v = cs')
    (kk : TO C ops Q l E ((some b, .cells cs'.toArray T' (0, 0)) :: R)) : TO C ops Q (i :: l) E H := have ⟨ho, hg, hx, hy⟩ := q0_; have ⟨h1, hfit, hcs⟩ := q1_;
  Z59 ho hg hx hy ht hs h1 hfit (by rw [hcs]; exact kk)
theorem Wc {t T' : TypeId} {x y : Operand} {b k : Nat} {cs vs : List Value} (q0_ : ops[i]? = some ⟨none, .store t x y, ty, pos, af, g⟩ ∧ Zg ops E g = true ∧ ev E x = some (.pointer (some ⟨b, 0, none⟩)) ∧ ev E y = some (.agg vs.toArray)) (ht : Take (some b, .cells cs.toArray T' (0, 0)) H R)
    (hs : Zq C.P t = some k) (q1_ : vs.length = k ∧ cs.length = k ∧ vs.all (·.oneCell') = true)
    (kk : TO C ops Q l E ((some b, .cells vs.toArray T' (0, 0)) :: R)) : TO C ops Q (i :: l) E H := have ⟨ho, hg, hx, hy⟩ := q0_; have ⟨hk, hl, h1⟩ := q1_;
  Nj (vs := vs) ho hg hx hy ht (by simp [Value.cells]) (by rw [hk]; exact hs) (fun u hu => List.all_eq_true.1 h1 u hu) (by simp; omega) (by
    simp [List.drop_eq_nil_of_le (show cs.length ≤ vs.length by omega)]) kk
abbrev arr {α : Type} (f : α → List Value) (xs : List α) (j : List Value) : List Value := xs.flatMap f ++ j
abbrev intC (k : IntKind) (x : Int) : List Value := [.int k x]
abbrev boolC (b : Bool) : List Value := [.bool b]
theorem Wu {α : Type} {f : α → List Value} {s : Nat} (hf : ∀ x, (f x).length = s) : ∀ xs : List α, (xs.flatMap f).length = xs.length * s
 | [] => by simp
 | x :: xs => by rw [List.flatMap_cons, List.length_append, hf, Wu hf xs, List.length_cons, Nat.add_mul]; omega
theorem Z0a {α : Type} {f : α → List Value} {s : Nat} (hf : ∀ x, (f x).length = s) (dflt : α) : ∀ (xs : List α) (o c : Nat), o < xs.length → c < s → (xs.flatMap f)[o * s + c]? = (f (xs.getD o dflt))[c]?
 | [], o, c, h, _ => by simp at h
 | x :: xs, 0, c, _, hc => by
  rw [List.flatMap_cons, Nat.zero_mul, Nat.zero_add, List.getElem?_append_left (by rw [hf]; exact hc)]
  rfl
 | x :: xs, o + 1, c, h, hc => by
  rw [List.flatMap_cons, List.getElem?_append_right (by rw [hf, Nat.add_mul]; omega), hf]
  have : (o + 1) * s + c - s = o * s + c := by rw [Nat.add_mul]; omega
  rw [this, Z0a hf dflt xs o c (by simpa using h) hc]
  rfl
theorem Rl {α : Type} {f : α → List Value} {s : Nat} (hf : ∀ x, (f x).length = s) (dflt : α) (xs : List α) (j : List Value) (o c : Nat) (h : o < xs.length) (hc : c < s) :
    (arr f xs j)[o * s + c]? = (f (xs.getD o dflt))[c]? := by
  unfold arr
  rw [List.getElem?_append_left, Z0a hf dflt xs o c h hc]
  rw [Wu hf]
  have : (o + 1) * s ≤ xs.length * s := Nat.mul_le_mul_right s h
  rw [Nat.add_mul] at this
  omega
theorem Z0u {α : Type} {f : α → List Value} {s : Nat} (hf : ∀ x, (f x).length = s) (v : α) (j : List Value) : ∀ (xs : List α) (o : Nat), o < xs.length →
    (arr f xs j).take (o * s) ++ f v ++ (arr f xs j).drop (o * s + (f v).length) = arr f (xs.set o v) j
  | [], o, h => by simp at h
  | x :: xs, 0, _ => by
    simp only [arr, List.flatMap_cons, Nat.zero_mul, List.take_zero, List.nil_append, Nat.zero_add, List.set_cons_zero, List.append_assoc]
    rw [hf, ← hf x, List.drop_left]
  | x :: xs, o + 1, h => by
    have ih := Z0u hf v j xs o (by simpa using h)
    simp only [arr, List.flatMap_cons, List.append_assoc, List.set_cons_succ] at ih ⊢
    rw [← ih]
    have e : (o + 1) * s = (f x).length + o * s := by rw [hf, Nat.add_mul]; omega
    rw [e, List.take_length_add_append, Nat.add_assoc, List.drop_length_add_append]
    simp [List.append_assoc]
theorem TO.ldI {t T' : TypeId} {x : Operand} {b o : Nat} {k : IntKind} {xs : List Int} {j : List Value} {fr : Nat × Nat} (ho : ops[i]? = some ⟨some d, .load t x, ty, pos, af, g⟩) (hg : Zg ops E g = true) (hd : Nat.ble (d + 1) C.n = true)
    (hx : ev E x = some (.pointer (some ⟨b, o, none⟩))) (hT : Yr C.P t = true) (hm : (some b, Obj.cells (arr (intC k) xs j).toArray T' fr) ∈ H) (hv : o < xs.length)
    (kk : TO C ops Q l ((d, .int k (xs.getD o 0)) :: E) H) : TO C ops Q (i :: l) E H :=
  Zm ⟨ho, hg, hd, hx⟩ hT hm (by
    have := Rl (f := intC k) (s := 1) (fun _ => rfl) 0 xs j o 0 hv (by omega)
    simpa using this) kk
theorem TO.stI {t T' : TypeId} {x y : Operand} {b o : Nat} {k : IntKind} {v : Int} {xs : List Int} {j : List Value} (ho : ops[i]? = some ⟨none, .store t x y, ty, pos, af, g⟩) (hg : Zg ops E g = true)
    (hx : ev E x = some (.pointer (some ⟨b, o, none⟩))) (hy : ev E y = some (.int k v)) (ht : Take (some b, .cells (arr (intC k) xs j).toArray T' (0, 0)) H R)
    (hs : Zq C.P t = some 1) (hv : o < xs.length)
    (kk : TO C ops Q l E ((some b, .cells (arr (intC k) (xs.set o v) j).toArray T' (0, 0)) :: R)) : TO C ops Q (i :: l) E H := by
  refine Nj (vs := [.int k v]) ho hg hx hy ht rfl hs (fun u hu => by simp at hu; subst hu; rfl) (by simp [Wu (f := intC k) (s := 1) (fun _ => rfl)]; omega) ?_ kk
  have := Z0u (f := intC k) (s := 1) (fun _ => rfl) v j xs o hv
  simpa using this
def ea (base : Option Addr) (n : Nat) : Addr := (base.getD ⟨0, 0, none⟩).add n
theorem Z03 {t e : TypeId} {x y : Operand} {base : Option Addr} {n c s : Nat} {k : IntKind} {p : Int} (ho : ops[i]? = some ⟨some d, .indexAddr t x y, ty, pos, af, g⟩) (hg : Zg ops E g = true) (hd : Nat.ble (d + 1) C.n = true)
    (hx : ev E x = some (.slice base n c)) (hy : ev E y = some (.int k p)) (ht : Zr C.P t = some e) (hs : Zq C.P e = some s) (hb : base = none → n = 0) (h0 : 0 ≤ p) (h1 : p < n)
    (kk : TO C ops Q l ((d, .pointer (some (ea base (p.toNat * s)))) :: E) H) : TO C ops Q (i :: l) E H :=
  TO.val ho hg hd (by simp) (fun a w hf hi => by
    cases base with
    | none => exact absurd h1 (by simp [hb rfl]; omega)
    | some b =>
      have hu := Xt ht
      simp [execOp, hf.ev hx, hf.ev hy, Instr.indexAt, asIntOf, run_underlying hu, h0, h1, Wp hs, ea]) kk
theorem TO.index {t e : TypeId} {x y : Operand} {b o n c s : Nat} {k : IntKind} {p : Int} (ho : ops[i]? = some ⟨some d, .indexAddr t x y, ty, pos, af, g⟩) (hg : Zg ops E g = true) (hd : Nat.ble (d + 1) C.n = true)
    (hx : ev E x = some (.slice (some ⟨b, o, none⟩) n c)) (hy : ev E y = some (.int k p)) (ht : Zr C.P t = some e) (hs : Zq C.P e = some s) (h0 : 0 ≤ p) (h1 : p < n)
    (kk : TO C ops Q l ((d, .pointer (some ⟨b, o + p.toNat * s, none⟩)) :: E) H) : TO C ops Q (i :: l) E H :=
  Z03 ho hg hd hx hy ht hs (by simp) h0 h1 (by simpa [ea, Addr.add_mid] using kk)
theorem Z3l {t e : TypeId} {x y : Operand} {b n c s : Nat} {k : IntKind} {p : Int} (ho : ops[i]? = some ⟨some d, .indexAddr t x y, ty, pos, af, g⟩) (hg : Zg ops E g = true) (hd : Nat.ble (d + 1) C.n = true)
    (hx : ev E x = some (.slice (some ⟨b, 0, none⟩) n c)) (hy : ev E y = some (.int k p)) (ht : Zr C.P t = some e) (hs : Zq C.P e = some s) (h0 : 0 ≤ p) (h1 : p < n)
    (kk : TO C ops Q l ((d, .pointer (some ⟨b, p.toNat * s, none⟩)) :: E) H) : TO C ops Q (i :: l) E H :=
  TO.index ho hg hd hx hy ht hs h0 h1 (by rw [Nat.zero_add]; exact kk)
theorem Z4q {t e : TypeId} {x y : Operand} {b n c : Nat} {k : IntKind} {p : Int} (ho : ops[i]? = some ⟨some d, .indexAddr t x y, ty, pos, af, g⟩) (hg : Zg ops E g = true) (hd : Nat.ble (d + 1) C.n = true)
    (hx : ev E x = some (.slice (some ⟨b, 0, none⟩) n c)) (hy : ev E y = some (.int k p)) (ht : Zr C.P t = some e) (hs : Zq C.P e = some 1) (h0 : 0 ≤ p) (h1 : p < n)
    (kk : TO C ops Q l ((d, .pointer (some ⟨b, p.toNat, none⟩)) :: E) H) : TO C ops Q (i :: l) E H :=
  Z3l ho hg hd hx hy ht hs h0 h1 (by rw [Nat.mul_one]; exact kk)
theorem Z5u {t e : TypeId} {x y : Operand} {base : Option Addr} {n c s : Nat} {k : IntKind} {p : Int} (ho : ops[i]? = some ⟨some d, .slice t x none (some y) none, ty, pos, af, g⟩) (hg : Zg ops E g = true) (hd : Nat.ble (d + 1) C.n = true)
    (hx : ev E x = some (.slice base n c)) (hy : ev E y = some (.int k p)) (ht : Zr C.P t = some e) (hs : Zq C.P e = some s) (h0 : 0 ≤ p) (h1 : p ≤ c)
    (kk : TO C ops Q l ((d, .slice base p.toNat c) :: E) H) : TO C ops Q (i :: l) E H :=
  TO.val ho hg hd (by simp) (fun a w hf hi => by
    have hu := Xt ht
    have hb : ∀ b : Option Addr, Option.map (fun x => x.add 0) b = b := fun b => by cases b <;> simp [Addr.add]
    simp [execOp, hf.ev hx, hf.ev hy, Instr.sliceAt, Instr.slice, Instr.sliceBounds, Instr.sliceBound, asIntOf, run_underlying hu, h0, h1, Wp hs, hb]) kk
structure RO {α : Type} (w : World) (f : α → List Value) (s : Nat) (base : Option Addr) (n : Nat) (xs : List α) : Prop where
  len : xs.length = n
  nil : base = none → n = 0
  wide : ∀ x, (f x).length = s
  cell : ∀ o c, o < xs.length → c < s → ∀ x, xs[o]? = some x → w.cell? (ea base (o * s + c)) = (f x)[c]?
section ro
variable {α : Type} {w w0 : World} {f : α → List Value} {s n : Nat} {base : Option Addr} {xs : List α} {M : List Nat}
theorem RO.at (h : RO w f s base n xs) (dflt : α) {o c : Nat} (ho : o < xs.length) (hc : c < s) : w.cell? (ea base (o * s + c)) = (f (xs.getD o dflt))[c]? :=
 h.cell o c ho hc _ (by rw [List.getElem?_eq_getElem ho, List.getD_eq_getElem?_getD, List.getElem?_eq_getElem ho]; rfl)
theorem RO.mono (h : RO w0 f s base n xs) (hi : Inv w0 [] w H) : RO w f s base n xs :=
 ⟨h.len, h.nil, h.wide, fun o c ho hc x hx => by
  have h1 := h.cell o c ho hc x hx
  have hcl : c < (f x).length := by rw [h.wide]; exact hc
  rw [List.getElem?_eq_getElem hcl] at h1 ⊢
  exact hi.cell_old h1 (by simp)⟩
theorem Z1h (w : World) (hf : ∀ x, (f x).length = s) : RO w f s none 0 ([] : List α) := ⟨rfl, fun _ => rfl, hf, fun o c h => by simp at h⟩
theorem Inv.ro (hi : Inv w0 M w H) (hf : ∀ x, (f x).length = s) {b : Nat} {T' : TypeId} {fr : Nat × Nat} {j : List Value} (hm : (some b, Obj.cells (arr f xs j).toArray T' fr) ∈ H) : RO w f s (some ⟨b, 0, none⟩) xs.length xs :=
 ⟨rfl, by simp, hf, fun o c ho hc x hx => by
  rw [show ea (some ⟨b, 0, none⟩) (o * s + c) = ⟨b, o * s + c, none⟩ by simp [ea, Addr.add_mid], hi.cell_own hm, List.getElem?_toArray, Rl hf x xs j o c ho hc]
  rw [List.getD_eq_getElem?_getD, hx]; rfl⟩
theorem RO.take (h : RO w f s base n xs) {m : Nat} (hm : m ≤ n) : RO w f s base m (xs.take m) :=
 ⟨by rw [List.length_take, h.len]; omega, fun hb => by have := h.nil hb; omega, h.wide, fun o c ho hc x hx => by
  have : o < m := by rw [List.length_take] at ho; omega
  rw [List.getElem?_take_of_lt this] at hx
  exact h.cell o c (by rw [List.length_take] at ho; omega) hc x hx⟩
end ro
theorem Rm (base : Option Addr) (n m : Nat) : (ea base n).add m = ea base (n + m) := by
 unfold ea Addr.add
 by_cases h1 : n = 0
 · subst h1; simp
 ·
  by_cases h2 : m = 0
  · subst h2; simp
  ·
   rw [if_neg h2, if_neg h1, if_neg (show n + m ≠ 0 by omega)]
   simp [Nat.add_assoc]
theorem Z4o (z : Value) (n : Nat) : madeCells #[z] n = (List.replicate n z).toArray := by
 unfold madeCells
 apply Array.ext'
 simp only [Array.toList_map]
 rw [List.eq_replicate_iff]
 refine ⟨by simp, fun u hu => ?_⟩
 simp only [List.mem_map] at hu
 obtain ⟨q, _, rfl⟩ := hu
 simp [Nat.mod_one]
theorem TO.makeSlice {t e : TypeId} {x y : Operand} {k k' : IntKind} {p : Int} {z : Value} {by' : Nat} (ho : ops[i]? = some ⟨some d, .makeSlice t x y, ty, pos, af, g⟩) (hg : Zg ops E g = true) (hd : Nat.ble (d + 1) C.n = true)
    (hx : ev E x = some (.int k p)) (hy : ev E y = some (.int k' p)) (ht : Zr C.P t = some e) (hs : Zq C.P e = some 1) (hz : Yl C.P e = some z) (hz1 : z.cells = #[z]) (hb : Xi C.P e = some by')
    (h0 : 0 ≤ p) (hroom : by' * p.toNat ≤ 281474976710656) (h63 : p ≤ 9223372036854775807)
    (kk : ∀ b, TO C ops Q l ((d, .slice (some ⟨b, 0, none⟩) p.toNat p.toNat) :: E) ((some b, .cells (List.replicate p.toNat z).toArray e (0, 0)) :: H)) : TO C ops Q (i :: l) E H := by
  obtain ⟨ti, hti, hsz⟩ := Vh hs
  have hz' : ti.zero = some z := by simpa [Yl, hti] using hz
  have hb' : ti.bytes = by' := by simpa [Xi, hti] using hb
  refine TO.new (fun b => .slice (some ⟨b, 0, none⟩) p.toNat p.toNat) ho hg hd (by simp) (fun a w hf hi => ?_) kk
  have hr := run_make (P := C.P) w t e ti z (Xt ht) hti hz' k k' p p h0 (Int.le_refl _) (by
    rw [hb']
    have : (p.toNat : Int) = p := Int.toNat_of_nonneg h0
    have h2 : ((by' * p.toNat : Nat) : Int) ≤ 281474976710656 := by omega
    rw [Int.natCast_mul, this] at h2
    exact h2) h63
  rw [hsz, Nat.mul_one, hz1, Z4o] at hr
  simp [execOp, hf.ev hx, hf.ev hy, hr]
theorem Z3e (n : Nat) (k : IntKind) : (List.replicate n (Value.int k 0)) = arr (intC k) (List.replicate n 0) [] := by
 induction n with
 | zero => rfl
 | succ n ih => simp only [List.replicate_succ, arr, List.flatMap_cons, List.append_nil, intC, List.singleton_append] at *; rw [← ih]
theorem Z5w (n : Nat) : (List.replicate n (Value.bool false)) = arr boolC (List.replicate n false) [] := by
 induction n with
 | zero => rfl
 | succ n ih => simp only [List.replicate_succ, arr, List.flatMap_cons, List.append_nil, boolC, List.singleton_append] at *; rw [← ih]
theorem TO.makeI {t e : TypeId} {x y : Operand} {k k' q : IntKind} {p : Int} {by' : Nat} (ho : ops[i]? = some ⟨some d, .makeSlice t x y, ty, pos, af, g⟩) (hg : Zg ops E g = true) (hd : Nat.ble (d + 1) C.n = true)
    (hx : ev E x = some (.int k p)) (hy : ev E y = some (.int k' p)) (ht : Zr C.P t = some e) (hs : Zq C.P e = some 1) (hz : Yl C.P e = some (.int q 0)) (hb : Xi C.P e = some by')
    (h0 : 0 ≤ p) (hroom : by' * p.toNat ≤ 281474976710656) (h63 : p ≤ 9223372036854775807)
    (kk : ∀ b, TO C ops Q l ((d, .slice (some ⟨b, 0, none⟩) p.toNat p.toNat) :: E) ((some b, .cells (arr (intC q) (List.replicate p.toNat 0) []).toArray e (0, 0)) :: H)) : TO C ops Q (i :: l) E H :=
  TO.makeSlice ho hg hd hx hy ht hs hz rfl hb h0 hroom h63 (fun b => by rw [Z3e]; exact kk b)
theorem TO.makeB {t e : TypeId} {x y : Operand} {k k' : IntKind} {p : Int} {by' : Nat} (ho : ops[i]? = some ⟨some d, .makeSlice t x y, ty, pos, af, g⟩) (hg : Zg ops E g = true) (hd : Nat.ble (d + 1) C.n = true)
    (hx : ev E x = some (.int k p)) (hy : ev E y = some (.int k' p)) (ht : Zr C.P t = some e) (hs : Zq C.P e = some 1) (hz : Yl C.P e = some (.bool false)) (hb : Xi C.P e = some by')
    (h0 : 0 ≤ p) (hroom : by' * p.toNat ≤ 281474976710656) (h63 : p ≤ 9223372036854775807)
    (kk : ∀ b, TO C ops Q l ((d, .slice (some ⟨b, 0, none⟩) p.toNat p.toNat) :: E) ((some b, .cells (arr boolC (List.replicate p.toNat false) []).toArray e (0, 0)) :: H)) : TO C ops Q (i :: l) E H :=
  TO.makeSlice ho hg hd hx hy ht hs hz rfl hb h0 hroom h63 (fun b => by rw [Z5w]; exact kk b)
theorem TO.buildSlice {t e : TypeId} {n : Nat} {ps : Array (Nat × Operand)} {vs : List (Nat × Value)} {cs : Array Value} {z : Value} {s : Nat} (ho : ops[i]? = some ⟨some d, .buildSlice t n ps, ty, pos, af, g⟩) (hg : Zg ops E g = true) (hd : Nat.ble (d + 1) C.n = true)
    (hx : evp E ps.toList = some vs) (ht : Zr C.P t = some e) (hs : Zq C.P e = some s) (hz : Yl C.P e = some z) (h24 : Nat.ble (n * s) (2 ^ 24) = true) (hp : Nat.ble 1 (n * s) = true)
    (hfill : Instr.fill (fun i => some (i * s, s)) ((Array.range (n * s)).map (z.cells[· % z.cells.size]!)) vs = some cs)
    (kk : ∀ b, TO C ops Q l ((d, .slice (some ⟨b, 0, none⟩) n n) :: E) ((some b, .cells cs e (0, 0)) :: H)) : TO C ops Q (i :: l) E H := by
  obtain ⟨ti, hti, hsz⟩ := Vh hs
  have hz' : ti.zero = some z := by simpa [Yl, hti] using hz
  refine TO.new (fun b => .slice (some ⟨b, 0, none⟩) n n) ho hg hd (by simp) (fun a w hf hi => ?_) kk
  have e1 : (ps.map (fun p => (p.1, a.eval p.2))).toList = vs := by simpa using Rq hf hx
  have h24' := Nat.le_of_ble_eq_true h24
  have hp' := Nat.le_of_ble_eq_true hp
  have hr := run_buildSlice (P := C.P) w t e n (ps.map (fun p => (p.1, a.eval p.2))) cs ti z (Xt ht) hti hz' (by rw [hsz]; omega) (by rw [hsz]; omega) (by rw [e1, hsz]; exact hfill)
  simp [execOp, hr]
theorem Gm {t e : TypeId} {n : Nat} {ps : Array (Nat × Operand)} {vs : List (Nat × Value)} {cs : List Value} {z : Value} {s : Nat} (zs : List Value) (offs : List Nat) (q0_ : ops[i]? = some ⟨some d, .buildSlice t n ps, ty, pos, af, g⟩ ∧ Zg ops E g = true ∧ Nat.ble (d + 1) C.n = true ∧ evp E ps.toList = some vs) (ht : Zr C.P t = some e) (hs : Zq C.P e = some s) (hz : Yl C.P e = some z) (q1_ : Nat.ble (n * s) (2 ^ 24) = true ∧ Nat.ble 1 (n * s) = true)
    (_hcs : Xh offs zs vs = cs)
    (hfill : Instr.fill (fun i => some (i * s, s)) ((Array.range (n * s)).map (z.cells[· % z.cells.size]!)) vs = some cs.toArray)
    (kk : ∀ b, TO C ops Q l ((d, .slice (some ⟨b, 0, none⟩) n n) :: E) ((some b, .cells cs.toArray e (0, 0)) :: H)) : TO C ops Q (i :: l) E H := have ⟨ho, hg, hd, hx⟩ := q0_; have ⟨h24, hp⟩ := q1_;
  TO.buildSlice ho hg hd hx ht hs hz h24 hp hfill kk
theorem TO.len {t : TypeId} {at' : Array TypeId} {x : Operand} {e : TypeId} {base : Option Addr} {n c : Nat}
    (ho : ops[i]? = some ⟨some d, .call ⟨.builtin .len, #[x], at'⟩, ty, pos, af, g⟩) (hg : Zg ops E g = true) (hd : Nat.ble (d + 1) C.n = true) (hat : at'[0]? = some t)
    (hx : ev E x = some (.slice base n c)) (ht : Zr C.P t = some e) (kk : TO C ops Q l ((d, .int .i64 n) :: E) H) : TO C ops Q (i :: l) E H :=
  TO.val ho hg hd (by simp) (fun a w hf _ => by
    simp [execOp, resolve, invoke, builtin, hf.ev hx, Builtin.len_, hat, run_underlying (Xt ht), goInt]) kk
theorem TO.min2 {at' : Array TypeId} {x y : Operand} {k : IntKind} {p q : Int}
    (q0_ : ops[i]? = some ⟨some d, .call ⟨.builtin .min, #[x, y], at'⟩, ty, pos, af, g⟩ ∧ Zg ops E g = true ∧ Nat.ble (d + 1) C.n = true ∧ ev E x = some (.int k p) ∧ ev E y = some (.int k q)) (kk : TO C ops Q l ((d, .int k (min p q)) :: E) H) : TO C ops Q (i :: l) E H := have ⟨ho, hg, hd, hx, hy⟩ := q0_;
  TO.val ho hg hd (by simp) (fun a w hf _ => by
    have : (if q < p then q else p) = min p q := by rw [Int.min_def]; split <;> split <;> omega
    simp [execOp, resolve, invoke, builtin, hf.ev hx, hf.ev hy, Builtin.min_, Builtin.min2, this]) kk
theorem Z0y {o : Oper} {f : FuncId} {args : Array Value} {M : List Nat} {Hm : Heap} {Post : Value → Heap → Prop}
    (ho : ops[i]? = some o) (hg : Zg ops E o.guard = true) (hdst : o.dst = some d) (hnd : ∀ c, o.op ≠ .defer c) (hd : Nat.ble (d + 1) C.n = true)
    (hrun : ∀ a w, Fits C.n C.D E a → Inv C.w0 C.M w H → (execOp a.eval o).run C.P w = .ok (.enter f args) w)
    (hH : List.Perm H (Hm ++ R)) (hM : ∀ m, m ∈ M → m ∈ Hm.filterMap (·.1))
    (hc : ∀ w, Inv C.w0 C.M w H → Fnc C.P f args w M Post)
    (kk : ∀ v N, Post v N → TO C ops Q l ((d, v) :: E) (N ++ R)) : TO C ops Q (i :: l) E H :=
  Jc ho hg hnd fun a w hf hi => by
    rw [hrun a w hf hi]
    refine ⟨by simp [FW], ?_⟩
    refine callsIn_FW.2 (Calls.mono (hc w hi) ?_)
    rintro e w' ⟨v, N, hP, rfl, hN⟩
    show wpOpsIn _ _ _ _ _ _ _ _
    rw [hdst]
    exact kk v N hP _ _ (hf.put hd v) (hi.join hH hM hN)
def Yn (P : Program) (f : FuncId) : Bool :=
  match P.funcs[f]? with
  | some fn => fn.body.isSome && !(fn.name == "runtime.NumGoroutine")
  | none => false
theorem Un {P : Program} {f : FuncId} (h : Yn P f = true) (args : Array Value) (w : World) : (callFunc f args).run P w = .ok (.enter f args) w := by
 unfold Yn at h
 cases hf : P.funcs[f]? with
 | none => simp [hf] at h
 | some fn =>
  simp only [hf, Bool.and_eq_true, Bool.not_eq_true'] at h
  have h2 : ¬ fn.body = none := by cases hb : fn.body <;> simp_all
  have h3 : ¬ fn.name = "runtime.NumGoroutine" := by simpa using h.2
  simp [callFunc, hf, h3, h2]
theorem TO.call {f : FuncId} {xs : Array Operand} {at' : Array TypeId} {vs : List Value} {Post : Value → Heap → Prop}
    (ho : ops[i]? = some ⟨some d, .call ⟨.value (.func f), xs, at'⟩, ty, pos, af, g⟩) (hg : Zg ops E g = true) (hd : Nat.ble (d + 1) C.n = true) (hF : Yn C.P f = true)
    (hx : evs E xs.toList = some vs)
    (hc : ∀ w, Inv C.w0 C.M w H → Fnc C.P f vs.toArray w [] Post)
    (kk : ∀ v N, Post v N → TO C ops Q l ((d, v) :: E) (N ++ H)) : TO C ops Q (i :: l) E H :=
  Z0y (Hm := []) (R := H) ho hg rfl (by simp) hd (fun a w hf hi => by
    have e1 : xs.map a.eval = vs.toArray := by apply Array.ext'; simpa using Jm hf hx
    simp [execOp, resolve, Deferred.ofValue, invoke, Act.eval, e1, Un hF]) (List.Perm.refl _) (by simp) hc kk
theorem TO.callV {f : FuncId} {x : Operand} {xs : Array Operand} {at' : Array TypeId} {vs : List Value} {fs cs : Array Value} {Post : Value → Heap → Prop}
    (ho : ops[i]? = some ⟨some d, .call ⟨.value x, xs, at'⟩, ty, pos, af, g⟩) (hg : Zg ops E g = true) (hd : Nat.ble (d + 1) C.n = true) (hF : Yn C.P f = true)
    (hfv : ev E x = some (.func (.func f) fs cs)) (hx : evs E xs.toList = some vs)
    (hc : ∀ w, Inv C.w0 C.M w H → Fnc C.P f (fs ++ vs.toArray ++ cs) w [] Post)
    (kk : ∀ v N, Post v N → TO C ops Q l ((d, v) :: E) (N ++ H)) : TO C ops Q (i :: l) E H :=
  Z0y (Hm := []) (R := H) ho hg rfl (by simp) hd (fun a w hf hi => by
    have e1 : xs.map a.eval = vs.toArray := by apply Array.ext'; simpa using Jm hf hx
    simp [execOp, resolve, Deferred.ofValue, invoke, hf.ev hfv, e1, Un hF]) (List.Perm.refl _) (by simp) hc kk
end rules
section ends
variable {C : Cx} {E : Env} {H N : Heap}
def Vn (tmps : Array Value) : ResultVar → Sem Value
  | .tmp t => pure (tmps.getD t undef)
  | .cell x t => do loadVar t (← asAddr (tmps.getD x undef))
theorem Z2n (fn : Func) (tmps : Array Value) : results fn tmps = (do
    let vs ← fn.results.mapM (Vn tmps)
    pure (if h : vs.size = 1 then vs[0] else .tuple vs)) := by
  unfold results
  congr 2
def Res (C : Cx) (E : Env) (H : Heap) (r : ResultVar) (v : Value) : Prop := ∀ a w, Fits C.n C.D E a → Inv C.w0 C.M w H → (Vn a.tmps r).run C.P w = .ok v w
theorem Res.tmp {t : Nat} {v : Value} (h : find E t = some v) : Res C E H (.tmp t) v := fun a w hf _ => by simp only [Vn, hf.get t v h]; rfl
theorem Lr {x k : Nat} {t T' : TypeId} {b : Nat} {cs : List Value} {fr : Nat × Nat} (h : find E x = some (.pointer (some ⟨b, 0, none⟩))) (hT : Xu C.P t k = true) (hm : (some b, Obj.cells cs.toArray T' fr) ∈ H) (hk : cs.length = k) :
    Res C E H (.cell x t) (.agg cs.toArray) := fun a w hf hi => by
  have := Z06 (P := C.P) (w := w) hT hk (a := ⟨b, 0, none⟩) (fun j v hv => by rw [Addr.add_mid, Nat.zero_add, hi.cell_own hm]; simpa using hv)
  simp only [Vn, hf.get x _ h, asAddr, Sem.run_bind, Sem.run_pure, Result.andThen_ok, this]
theorem Z4f {x o : Nat} {t T' : TypeId} {b : Nat} {cs : Array Value} {fr : Nat × Nat} {v : Value} (h : find E x = some (.pointer (some ⟨b, o, none⟩))) (hT : Yr C.P t = true) (hm : (some b, Obj.cells cs T' fr) ∈ H) (hv : cs[o]? = some v) :
    Res C E H (.cell x t) v := fun a w hf hi => by
  have := Nf hT (show w.cell? ⟨b, o, none⟩ = some v by rw [hi.cell_own hm]; exact hv)
  simp only [Vn, hf.get x _ h, asAddr, Sem.run_bind, Sem.run_pure, Result.andThen_ok, this]
def Jq : List Value → Value
  | [u] => u
  | vs => .tuple vs.toArray
theorem X.ret {fn : Func} {rs : List ResultVar} {vs : List Value} {v : Value} {w0 : World} {M : List Nat} {Post : Value → Heap → Prop} (hw : C.w0 = w0) (hMM : C.M = M) (hD : C.D = []) (hfn : fn.results.toList = rs)
    (hr : ∀ (j : Nat) r u, rs[j]? = some r → vs[j]? = some u → Res C E H r u) (q0_ : rs.length = vs.length ∧ v = Jq vs)
    (hN : Pick N H) (hP : Post v N) : X C (bodyPost C.P fn (Vw w0 M Post)) .ret E H := by
  obtain ⟨hl, hv⟩ := q0_
  intro a w hf hi
  refine ⟨hf.defers.trans hD, v, ?_, v, N, hP, rfl, by rw [← hw, ← hMM]; exact hi.pick hN⟩
  have key : ∀ (rs : List ResultVar) (vs : List Value), rs.length = vs.length → (∀ (j : Nat) r u, rs[j]? = some r → vs[j]? = some u → Res C E H r u) →
      (rs.mapM (Vn a.tmps)).run C.P w = .ok vs w := by
    intro rs
    induction rs with
    | nil => intro vs hl _; cases vs <;> simp_all
    | cons r rs ih =>
      intro vs hl h
      cases vs with
      | nil => simp at hl
      | cons u vs =>
        have h0 := h 0 r u rfl rfl a w hf hi
        have h1 := ih vs (by simpa using hl) (fun j r' u' hj hu => h (j + 1) r' u' (by simpa using hj) (by simpa using hu))
        simp only [List.mapM_cons, Sem.run_bind, h0, Result.andThen_ok, h1, Sem.run_pure]
  have := key rs vs hl hr
  rw [Z2n, ← Array.toArray_toList (xs := fn.results), hfn, List.mapM_toArray]
  simp only [Sem.run_bind, Sem.run_map, this, Result.andThen_ok, Sem.run_pure]
  rw [hv]
  cases vs with
  | nil => simp [Jq]
  | cons u vs =>
    cases vs with
    | nil => simp [Jq]
    | cons u' vs => simp [Jq]
theorem Zw {fn : Func} {r : ResultVar} {v : Value} {w0 : World} {M : List Nat} {Post : Value → Heap → Prop} (q0_ : C.w0 = w0 ∧ C.M = M ∧ C.D = [] ∧ fn.results.toList = [r]) (hr : Res C E H r v) (hN : Pick N H) (hP : Post v N) :
    X C (bodyPost C.P fn (Vw w0 M Post)) .ret E H := have ⟨hw, hMM, hD, hfn⟩ := q0_;
  X.ret (vs := [v]) hw hMM hD hfn (fun j r' u h1 h2 => by
    cases j with
    | zero => simp at h1 h2; subst h1; subst h2; exact hr
    | succ j => simp at h1) rr2 hN hP
theorem Vz {fn : Func} {r r' : ResultVar} {v v' : Value} {w0 : World} {M : List Nat} {Post : Value → Heap → Prop} (q0_ : C.w0 = w0 ∧ C.M = M ∧ C.D = [] ∧ fn.results.toList = [r, r']) (hr : Res C E H r v) (hr' : Res C E H r' v') (hN : Pick N H) (hP : Post (.tuple #[v, v']) N) :
    X C (bodyPost C.P fn (Vw w0 M Post)) .ret E H := have ⟨hw, hMM, hD, hfn⟩ := q0_;
  X.ret (vs := [v, v']) hw hMM hD hfn (fun j r'' u h1 h2 => by
    match j with
    | 0 => simp at h1 h2; subst h1; subst h2; exact hr
    | 1 => simp at h1 h2; subst h1; subst h2; exact hr'
    | j + 2 => simp at h1) rr2 hN hP
def Jh : Nat → List Value → Env
  | _, [] => []
  | k, v :: vs => (k, v) :: Jh (k + 1) vs
theorem Ry : ∀ (vs : List Value) (k t : Nat) (v : Value), find (Jh k vs) t = some v → k ≤ t ∧ vs[t - k]? = some v
 | [], k, t, v, h => by simp [Jh, find] at h
 | u :: vs, k, t, v, h => by
  simp only [Jh] at h
  rw [Wo] at h
  by_cases e : k = t
  · subst e; rw [if_pos rfl] at h; simpa using h
  ·
   rw [if_neg e] at h
   obtain ⟨h1, h2⟩ := Ry vs (k + 1) t v h
   refine ⟨by omega, ?_⟩
   have : t - k = (t - (k + 1)) + 1 := by omega
   rw [this]; simpa using h2
theorem Yx {P : Program} {f : FuncId} {fn : Func} {c : Code} {vs : List Value} {w : World} {M : List Nat} {H : Heap} {Post : Value → Heap → Prop}
    (hf : P.funcs[f]? = some fn) (hb : fn.body = some c) (hn : Nat.ble vs.length fn.ntmps = true) (hi : Inv w M w H)
    (h : T ⟨P, none, fn.ntmps, [], w, M⟩ c (bodyPost P fn (Vw w M Post)) (Jh 0 vs) H) : Fnc P f vs.toArray w M Post := by
  have hn' := Nat.le_of_ble_eq_true hn
  refine callsIn_FW (ρ := none) (n := 0) |>.1 (callsIn_of_wp hf hb trivial ?_ rfl)
  refine h _ w ⟨by simp; omega, rfl, fun t v hv => ?_⟩ hi
  obtain ⟨_, h2⟩ := Ry vs 0 t v hv
  rw [Nat.sub_zero] at h2
  have hlt := (List.getElem?_eq_some_iff.1 h2).1
  simp only [Array.getD_eq_getD_getElem?]
  rw [Array.getElem?_append_left (by simpa using hlt)]
  simp [h2]
end ends
end Go.Acq
namespace Go.Acq
open Go Go.RowKit
def Wq (ops : Array Oper) : Bool := (List.range ops.size).all fun i => match ops[i]? with
  | some o => o.after.all fun e => !Region.binds .any e || Nat.blt e.on i
  | none => false
section any
variable {F : Fence} {P : Program} {ops : Array Oper} {Q : Exit → Act → World → Prop}
theorem Z4s {listed : Array Bool} (hb : Wq ops = true) (h : Region.ready .any ops listed = []) : ∀ i, i < ops.size → listed.getD i true = true := by
 intro i
 induction i using Nat.strongRecOn with
 | _ i ih =>
  intro hi
  cases hl : listed.getD i true with
  | true => rfl
  | false =>
   exfalso
   have hb' := List.all_eq_true.1 hb i (List.mem_range.2 hi)
   have ho : ops[i]? = some ops[i] := Array.getElem?_eq_getElem hi
   rw [ho] at hb'
   have : i ∈ Region.ready .any ops listed := by
    rw [mem_ready]
    refine ⟨hl, ops[i], ho, ?_⟩
    intro e he hbe
    have h2 := Array.all_eq_true_iff_forall_mem.1 hb' e he
    rw [hbe] at h2
    have hlt : e.on < i := by simpa using h2
    have := ih e.on hlt (by omega)
    have hsz : listed.getD e.on false = true := by
     rw [Array.getD_eq_getD_getElem?] at this hl ⊢
     cases hq : listed[e.on]? with
     | some b => rw [hq] at this; simpa using this
     | none =>
      have h3 : listed[i]? = none := by
       rw [Array.getElem?_eq_none_iff] at hq ⊢
       omega
      rw [h3] at hl; simp at hl
    exact hsz
   rw [h] at this
   cases this
theorem Z33 (J : (Nat → Bool) → Act → World → Prop) (hb : Wq ops = true)
    (hstep : ∀ (done : Nat → Bool) i o a w, ops[i]? = some o → done i = false → (∀ e, e ∈ o.after → Region.binds .any e = true → done e.on = true) → J done a w →
      wpOpIn F 0 P ops Q i (fun a' w' => J (fun m => if m = i then true else done m) a' w') a w)
    (hend : ∀ (done : Nat → Bool) a w, (∀ i, i < ops.size → done i = true) → J done a w → Q .normal a w) :
    ∀ (fuel : Nat) (listed : Array Bool) a w, listed.size = ops.size → ((List.range ops.size).filter (fun i => !listed.getD i true)).length ≤ fuel → J (fun m => listed.getD m false) a w →
      wpAnyIn F 0 P .any ops Q fuel listed a w := by
  have hfin : ∀ (listed : Array Bool) a w, listed.size = ops.size → Region.ready .any ops listed = [] → J (fun m => listed.getD m false) a w → Q .normal a w := by
    intro listed a w hs hr hJ
    refine hend _ a w (fun i hi => ?_) hJ
    have := Z4s hb hr i hi
    rw [Array.getD_eq_getD_getElem?] at this ⊢
    rw [Array.getElem?_eq_getElem (by omega)] at this ⊢
    simpa using this
  intro fuel
  induction fuel with
  | zero =>
    intro listed a w hs hf hJ
    have hr : Region.ready .any ops listed = [] := by
      cases hq : Region.ready .any ops listed with
      | nil => rfl
      | cons i l =>
        exfalso
        have hm : i ∈ Region.ready .any ops listed := by rw [hq]; exact .head _
        obtain ⟨hl, o, ho, _⟩ := mem_ready.1 hm
        have hi : i < ops.size := (Array.getElem?_eq_some_iff.1 ho).1
        have : i ∈ (List.range ops.size).filter (fun i => !listed.getD i true) := List.mem_filter.2 ⟨List.mem_range.2 hi, by simp [hl]⟩
        have := List.length_pos_of_mem this
        omega
    exact ⟨hr, hfin listed a w hs hr hJ⟩
  | succ fuel ih =>
    intro listed a w hs hf hJ
    refine ⟨fun hr => hfin listed a w hs hr hJ, fun i hm => ?_⟩
    obtain ⟨hl, o, ho, hafter⟩ := mem_ready.1 hm
    have hi : i < ops.size := (Array.getElem?_eq_some_iff.1 ho).1
    have hli : listed[i]? = some false := by
      rw [Array.getD_eq_getD_getElem?] at hl
      cases hq : listed[i]? with
      | none => rw [hq] at hl; simp at hl
      | some b => rw [hq] at hl; simp at hl; rw [hl]
    have hd : (fun m => listed.getD m false) i = false := by
      show listed.getD i false = false
      rw [Array.getD_eq_getD_getElem?, hli]; rfl
    refine wpOpIn_mono (fun a' w' hJ' => ih _ a' w' (by simp [hs]) ?_ ?_) (hstep _ i o a w ho hd hafter hJ)
    · have hsub : (List.range ops.size).filter (fun j => !(listed.setIfInBounds i true).getD j true) = ((List.range ops.size).filter (fun j => !listed.getD j true)).filter (fun j => decide (j ≠ i)) := by
        rw [List.filter_filter]
        apply List.filter_congr
        intro j hj
        have hjs : j < ops.size := List.mem_range.1 hj
        simp only [Array.getD_eq_getD_getElem?, Array.getElem?_setIfInBounds]
        by_cases e : i = j
        · subst e; simp [hs, hjs]
        · rw [if_neg e]
          have : decide (j ≠ i) = true := by simpa using fun h => e h.symm
          rw [this]; simp
      rw [hsub]
      have hmem : i ∈ (List.range ops.size).filter (fun j => !listed.getD j true) := List.mem_filter.2 ⟨List.mem_range.2 hi, by simp [hl]⟩
      have : (((List.range ops.size).filter (fun j => !listed.getD j true)).filter (fun j => decide (j ≠ i))).length < ((List.range ops.size).filter (fun j => !listed.getD j true)).length := by
        rw [List.length_filter_lt_length_iff_exists]
        exact ⟨i, hmem, by simp⟩
      omega
    · have : (fun m => (listed.setIfInBounds i true).getD m false) = (fun m => if m = i then true else listed.getD m false) := by
        funext m
        simp only [Array.getD_eq_getD_getElem?, Array.getElem?_setIfInBounds]
        by_cases e : i = m
        · subst e
          have : i < listed.size := by omega
          simp [this]
        · rw [if_neg e, if_neg (fun h => e h.symm)]
      rw [this]; exact hJ'
end any
def We (ops : Array Oper) : Nat → Nat → Nat → Bool
  | 0, _, _ => false
  | f + 1, i, j => match ops[i]? with
    | some o => (o.after.toList.any fun e => Region.binds .any e && Nat.beq e.on j) || (o.after.toList.any fun e => Region.binds .any e && We ops f e.on j)
    | none => false
def Uk (ops : Array Oper) (m : Nat) : Bool := (List.range ops.size).all fun i => Nat.blt i m || (List.range i).all fun j => We ops ops.size i j
section phase
variable {F : Fence} {P : Program} {ops : Array Oper} {Q : Exit → Act → World → Prop}
def Wi (ops : Array Oper) (done : Nat → Bool) : Prop := ∀ (i : Nat) (o : Oper), ops[i]? = some o → done i = true → ∀ e, e ∈ o.after → Region.binds .any e = true → done e.on = true
theorem Ki {done : Nat → Bool} (hc : Wi ops done) : ∀ (f i j : Nat), We ops f i j = true → (∀ (o : Oper), ops[i]? = some o → ∀ e, e ∈ o.after → Region.binds .any e = true → done e.on = true) → done j = true
 | 0, i, j, h, _ => by simp [We] at h
 | f + 1, i, j, h, hd => by
  unfold We at h
  cases ho : ops[i]? with
  | none => rw [ho] at h; simp at h
  | some o =>
   rw [ho] at h
   simp only [Bool.or_eq_true, List.any_eq_true] at h
   rcases h with h | h
   ·
    obtain ⟨e, he, h2⟩ := h
    simp only [Bool.and_eq_true] at h2
    rw [← Nat.eq_of_beq_eq_true h2.2]
    exact hd o ho e (by simpa using he) h2.1
   ·
    obtain ⟨e, he, h2⟩ := h
    simp only [Bool.and_eq_true] at h2
    have hde := hd o ho e (by simpa using he) h2.1
    exact Ki hc f e.on j h2.2 (fun o' ho' e' he' hb' => hc e.on o' ho' hde e' he' hb')
theorem Z2e {id : Nat} {m : Nat} (Jp : (Nat → Bool) → Act → World → Prop) (hm : P.follows .mixedOrders = true) (hb : Wq ops = true) (ht : Uk ops m = true) (hms : m ≤ ops.size)
    (hstep : ∀ (done : Nat → Bool) i o a w, i < m → ops[i]? = some o → done i = false → Wi ops done → (∀ e, e ∈ o.after → Region.binds .any e = true → done e.on = true) → (∀ j, m ≤ j → done j = false) → Jp done a w →
      wpOpIn F 0 P ops Q i (fun a' w' => Jp (fun q => if q = i then true else done q) a' w') a w)
    (hend : ∀ (done : Nat → Bool) a w, (∀ i, i < m → done i = true) → Jp done a w → wpOpsIn F 0 P ops Q (List.range' m (ops.size - m)) a w)
    {a : Act} {w : World} (h0 : Jp (fun _ => false) a { w with drawn := w.drawn + 1 }) : (Code.region id ops true).wpIn F 0 P Q a w := by
  have hafter : ∀ (done : Nat → Bool) (i : Nat) (o : Oper), Wi ops done → ops[i]? = some o → m ≤ i → (∀ e, e ∈ o.after → Region.binds .any e = true → done e.on = true) → ∀ j, j < i → done j = true := by
    intro done i o hc ho hmi hd j hj
    have hi : i < ops.size := (Array.getElem?_eq_some_iff.1 ho).1
    have h1 := List.all_eq_true.1 ht i (List.mem_range.2 hi)
    simp only [Bool.or_eq_true] at h1
    rcases h1 with h1 | h1
    · have : i < m := by simpa using h1
      omega
    · exact Ki hc _ i j (List.all_eq_true.1 h1 j (List.mem_range.2 hj)) (fun o' ho' => by rw [ho] at ho'; injection ho' with ho'; subst ho'; exact hd)
  have hclosed : ∀ (done : Nat → Bool) (i : Nat) (o : Oper), Wi ops done → ops[i]? = some o → (∀ e, e ∈ o.after → Region.binds .any e = true → done e.on = true) → Wi ops (fun q => if q = i then true else done q) := by
    intro done i o hc ho hd j o' ho' hj e he hbe
    show (if e.on = i then true else done e.on) = true
    by_cases hei : e.on = i
    · rw [if_pos hei]
    · rw [if_neg hei]
      by_cases hji : j = i
      · subst hji; rw [ho] at ho'; injection ho' with ho'; subst ho'; exact hd e he hbe
      · have hj' : done j = true := by simpa [hji] using hj
        exact hc j o' ho' hj' e he hbe
  refine wpIn_region_any hm (Z33 (J := fun done a w => Wi ops done ∧ (((∃ i, i < m ∧ done i = false) ∧ (∀ j, m ≤ j → done j = false) ∧ Jp done a w) ∨ (∃ q, m ≤ q ∧ q ≤ ops.size ∧ (∀ j, j < q → done j = true) ∧ (∀ j, q ≤ j → done j = false) ∧ wpOpsIn F 0 P ops Q (List.range' q (ops.size - q)) a w)))
    hb ?_ ?_ ops.size (Array.replicate ops.size false) a _ (by simp) ?_ ?_)
  · rintro done i o a w ho hdi hd ⟨hc, hJ⟩
    have hi : i < ops.size := (Array.getElem?_eq_some_iff.1 ho).1
    rcases hJ with ⟨⟨i0, hi0, hdi0⟩, htail, hJp⟩ | ⟨q, hmq, hqs, hlow, hhigh, hw⟩
    · have him : i < m := by
        rcases Nat.lt_or_ge i m with h | h
        · exact h
        · have := hafter done i o hc ho h hd i0 (by omega)
          rw [hdi0] at this; cases this
      refine wpOpIn_mono (fun a' w' hJ' => ⟨hclosed done i o hc ho hd, ?_⟩) (hstep done i o a w him ho hdi hc hd htail hJp)
      rcases Classical.em (∃ j, j < m ∧ (if j = i then true else done j) = false) with hex | hno
      · exact .inl ⟨hex, fun j hj => by show (if j = i then true else done j) = false; rw [if_neg (by omega)]; exact htail j hj, hJ'⟩
      · have hall : ∀ j, j < m → (if j = i then true else done j) = true := fun j hj => by
          cases hq : (if j = i then true else done j) with
          | true => rfl
          | false => exact absurd ⟨j, hj, hq⟩ hno
        exact .inr ⟨m, Nat.le_refl _, hms, hall, fun j hj => by show (if j = i then true else done j) = false; rw [if_neg (by omega)]; exact htail j hj, hend _ a' w' hall hJ'⟩
    · have hiq : i = q := by
        rcases Nat.lt_trichotomy i q with h | h | h
        · rw [hlow i h] at hdi; cases hdi
        · exact h
        · have := hafter done i o hc ho (by omega) hd q h
          rw [hhigh q (Nat.le_refl _)] at this; cases this
      subst hiq
      have hsz : ops.size - i = (ops.size - (i + 1)) + 1 := by omega
      rw [hsz, List.range'_succ, wpOpsIn_cons] at hw
      refine wpOpIn_mono (fun a' w' hw' => ⟨hclosed done i o hc ho hd, .inr ⟨i + 1, by omega, by omega, fun j hj => ?_, fun j hj => ?_, hw'⟩⟩) hw
      · show (if j = i then true else done j) = true
        by_cases e : j = i
        · rw [if_pos e]
        · rw [if_neg e]; exact hlow j (by omega)
      · show (if j = i then true else done j) = false
        rw [if_neg (by omega)]; exact hhigh j (by omega)
  · rintro done a w hall ⟨hc, hJ⟩
    rcases hJ with ⟨⟨i0, hi0, hdi0⟩, _, _⟩ | ⟨q, hmq, hqs, hlow, hhigh, hw⟩
    · rw [hall i0 (by omega)] at hdi0; cases hdi0
    · have hq : q = ops.size := by
        rcases Nat.lt_or_ge q ops.size with h | h
        · have := hall q h; rw [hhigh q (Nat.le_refl _)] at this; cases this
        · omega
      subst hq
      simpa [wpOpsIn] using hw
  · have : ((List.range ops.size).filter (fun i => !(Array.replicate ops.size false).getD i true)).length ≤ (List.range ops.size).length := List.length_filter_le _ _
    simpa using this
  · have hf : (fun q => (Array.replicate ops.size false).getD q false) = fun _ => false := by
      funext q
      simp only [Array.getD_eq_getD_getElem?, Array.getElem?_replicate]
      split <;> rfl
    show Wi ops (fun q => (Array.replicate ops.size false).getD q false) ∧ _
    rw [hf]
    refine ⟨fun i o _ h => by simp at h, ?_⟩
    rcases Nat.eq_zero_or_pos m with h | h
    · subst h
      exact .inr ⟨0, Nat.le_refl _, Nat.zero_le _, fun j hj => by omega, fun _ _ => rfl, hend _ _ _ (fun i hi => by omega) h0⟩
    · exact .inl ⟨⟨0, h, rfl⟩, fun _ _ => rfl, h0⟩
end phase
section quiet
variable {C : Cx} {ops : Array Oper} {Q : Exit → Act → World → Prop} {E : Env} {H : Heap}
def Z2y (ops : Array Oper) (L : Env) (i : Nat) : Env :=
  match ops[i]? with
  | some o => o.after.toList.filterMap fun e => cond (Region.binds .any e) (L[e.on]?) none
  | none => []
def Ob (C : Cx) (ops : Array Oper) (Q : Exit → Act → World → Prop) (L W : Env) (H : Heap) (i : Nat) : Prop :=
  ∀ Es : Env, TO C ops (fun e a w => match e with
    | .normal => ∃ p, L[i]? = some p ∧ Fits C.n C.D (p :: (Z2y ops L i ++ (W ++ Es))) a ∧ Inv C.w0 C.M w H
    | e => Q e a w) [i] (Z2y ops L i ++ (W ++ Es)) H
def Obs (C : Cx) (ops : Array Oper) (Q : Exit → Act → World → Prop) (L W : Env) (H : Heap) : List Nat → Prop
  | [] => True
  | i :: l => Ob C ops Q L W H i ∧ Obs C ops Q L W H l
theorem Obs.get {L W : Env} : ∀ {l : List Nat}, Obs C ops Q L W H l → ∀ i, i ∈ l → Ob C ops Q L W H i
 | [], _, i, h => by cases h
 | j :: l, ⟨h1, h2⟩, i, h => by
  rcases List.mem_cons.1 h with rfl | h
  · exact h1
  · exact Obs.get h2 i h
def Vu : List Nat → Bool
  | [] => true
  | x :: xs => !(xs.any (Nat.beq x)) && Vu xs
theorem Rf : ∀ {l : List Nat}, Vu l = true → l.Nodup
 | [], _ => by simp
 | x :: xs, h => by
  simp only [Vu, Bool.and_eq_true, Bool.not_eq_true'] at h
  refine List.nodup_cons.2 ⟨fun hm => ?_, Rf h.2⟩
  rw [any_beq.2 hm] at h; cases h.1
theorem Z0g : ∀ {L : Env} {t : Nat} {v : Value}, find L t = some v → (t, v) ∈ L
 | [], _, _, h => by simp [find] at h
 | (d, u) :: L, t, v, h => by
  rw [Wo] at h
  by_cases e : d = t
  · subst e; rw [if_pos rfl] at h; injection h with h; subst h; exact .head _
  · rw [if_neg e] at h; exact .tail _ (Z0g h)
end quiet
end Go.Acq
namespace Go.Acq
open Go Go.RowKit
abbrev sb (ob : Option Nat) : Option Addr := ob.map fun b => ⟨b, 0, none⟩
section
variable {α : Type} {w w0 : World} {f : α → List Value} {s n : Nat} {base : Option Addr} {xs : List α} {M : List Nat} {H : Heap}
theorem Inv.roO (hi : Inv w0 M w H) (hf : ∀ x, (f x).length = s) {ob : Option Nat} {T' : TypeId} {fr : Nat × Nat} {j : List Value} (hm : (ob, Obj.cells (arr f xs j).toArray T' fr) ∈ H) (hn : xs.length = n) (h0 : ob = none → n = 0) : RO w f s (sb ob) n xs := by
 cases ob with
 | none =>
  have := h0 rfl
  have hx : xs = [] := List.eq_nil_of_length_eq_zero (by omega)
  subst hx
  exact ⟨hn, fun _ => this, hf, fun o c h => by simp at h⟩
 | some b => rw [← hn]; exact hi.ro hf hm
theorem RO.cells (h : RO w f s base n xs) : ∀ (j : Nat) u, (xs.flatMap f)[j]? = some u → w.cell? (ea base j) = some u := by
 intro j u hj
 have hlt : j < (xs.flatMap f).length := (List.getElem?_eq_some_iff.1 hj).1
 rw [Wu h.wide] at hlt
 have hs : 0 < s := by
  rcases Nat.eq_zero_or_pos s with e | e
  · subst e; simp at hlt
  · exact e
 have ho : j / s < xs.length := Nat.div_lt_of_lt_mul (by rw [Nat.mul_comm]; exact hlt)
 have hc : j % s < s := Nat.mod_lt _ hs
 have hjd : j / s * s + j % s = j := by rw [Nat.mul_comm]; exact Nat.div_add_mod j s
 have hx : xs[j / s]? = some xs[j / s] := List.getElem?_eq_getElem ho
 have h1 := h.cell (j / s) (j % s) ho hc _ hx
 rw [hjd] at h1
 rw [h1]
 have h2 := Z0a h.wide xs[j / s] xs (j / s) (j % s) ho hc
 rw [hjd, hj, List.getD_eq_getElem?_getD, hx] at h2
 exact h2.symm
theorem RO.src {P : Program} {t e' : TypeId} (h : RO w f s base n xs) (hk : P.underlying t = some (.slice e')) (h1 : ∀ x, (f x).all (·.oneCell') = true) (c : Nat) : Src P s t (.slice base n c) n (xs.flatMap f) w := by
 have hall : ∀ u, u ∈ xs.flatMap f → u.oneCell' = true := by
  intro u hu
  obtain ⟨x, _, hx⟩ := List.mem_flatMap.1 hu
  exact List.all_eq_true.1 (h1 x) u hx
 cases base with
 | none =>
  have hn := h.nil rfl
  have hx : xs = [] := List.eq_nil_of_length_eq_zero (by rw [h.len]; exact hn)
  subst hx; subst hn
  exact Src.ofNil w hk c
 | some a =>
  refine Src.ofSlice w hk a n c _ (by rw [Wu h.wide, h.len]) (fun j u hj => ?_) hall
  have := h.cells j u hj
  simpa [ea] using this
theorem RO.drew (h : RO w f s base n xs) : RO w.drew f s base n xs := ⟨h.len, h.nil, h.wide, fun o c ho hc x hx => h.cell o c ho hc x hx⟩
theorem RO.first {P : Program} (h : RO w f s base n xs) (c : Nat) : (Builtin.firstCells s n (.slice base n c)).run P w = .ok (xs.flatMap f).toArray w := by
 cases base with
 | none =>
  have hn := h.nil rfl
  have hx : xs = [] := List.eq_nil_of_length_eq_zero (by rw [h.len]; exact hn)
  subst hx; subst hn
  exact run_firstCells_none w s 0 0 c
 | some a => exact run_firstCells_some w s n a n c _ (by rw [Wu h.wide, h.len]) (fun j u hj => by have := h.cells j u hj; simpa [ea] using this)
end
section rules
variable {C : Cx} {ops : Array Oper} {Q : Exit → Act → World → Prop} {l : List Nat} {E : Env} {H R : Heap} {i d : Nat} {ty : TypeId} {pos : String} {af : Array Edge} {g : Option (Nat × Bool)}
theorem Nd {P : Program} {w : World} {b o : Nat} {T' : TypeId} {cs : Array Value} {vs : List Value} (hb : w.heap[b]? = some (.cells cs T' (0, 0))) (hfit : o + vs.length ≤ cs.size) (h1 : ∀ u, u ∈ vs → u.oneCell' = true) :
    w.setCells b o vs = w.setRow b (cs.toList.take o ++ vs ++ cs.toList.drop (o + vs.length)).toArray := by
  have h2 := run_storeCells_at P b o T' vs 0 cs w hb (by simpa using hfit) h1
  have h3 := run_storeCells_cells (P := P) b o vs 0 w (fun j hj => by
    simp only [Nat.add_zero, World.cell?, hb]
    simp; omega) (fun j hj => by simp [World.frozen?, hb]) h1
  simp only [Nat.add_zero] at h2 h3
  rw [h2] at h3
  injection h3 with _ h3
  exact h3.symm
structure ElemT (P : Program) (t e : TypeId) (s by' : Nat) (z : Value) : Prop where
  slice : Zr P t = some e
  size : Zq P e = some s
  bytes : Xi P e = some by'
  zero : Yl P e = some z
  zsize : z.cells.size = s
theorem TO.append {α : Type} {f : α → List Value} {s by' : Nat} {z : Value} {t e : TypeId} {x y : Operand} {ob : Option Nat} {base : Option Addr} {n c m cy : Nat} {xs ys : List α} {j : List Value}
    (hf : ∀ x, (f x).length = s) (h1 : ∀ x, (f x).all (·.oneCell') = true) (hT : ElemT C.P t e s by' z)
    (ho : ops[i]? = some ⟨some d, .call ⟨.builtin .append, #[x, y], #[t, t]⟩, ty, pos, af, g⟩) (hg : Zg ops E g = true) (hd : Nat.ble (d + 1) C.n = true)
    (hx : ev E x = some (.slice (sb ob) n c)) (hy : ev E y = some (.slice base m cy))
    (ht : Take (ob, .cells (arr f xs j).toArray e (0, 0)) H R) (hn : xs.length = n) (hnc : n ≤ c) (hj : j.length = (c - n) * s) (h0 : ob = none → c = 0)
    (hsrc : ∀ w, Inv C.w0 C.M w H → RO w f s base m ys) (hroom : (n + m) * by' ≤ 140737488355328) (hmax : n + m ≤ 4611686018427387904)
    (kk : ∀ (ob' : Option Nat) (c' : Nat) (j' : List Value), n + m ≤ c' → j'.length = (c' - (n + m)) * s → (ob' = none → c' = 0) → TO C ops Q l ((d, .slice (sb ob') (n + m) c') :: E) ((ob', .cells (arr f (xs ++ ys) j').toArray e (0, 0)) :: R)) :
    TO C ops Q (i :: l) E H := by
  refine Jc ho hg (by simp) fun a w hfit hi => ?_
  obtain ⟨ti, hti, hsz⟩ := Vh hT.size
  have hu := Xt hT.slice
  have hz' : ti.zero = some z := by have := hT.zero; simpa [Yl, hti] using this
  have hb' : ti.bytes = by' := by have := hT.bytes; simpa [Xi, hti] using this
  have hs := hsrc w hi
  have hro := hi.roO hf ht.mem hn (fun e => by have := h0 e; omega)
  have hexec : (execOp a.eval ⟨some d, .call ⟨.builtin .append, #[x, y], #[t, t]⟩, ty, pos, af, g⟩).run C.P w = ((Builtin.append_ #[t, t] ty #[.slice (sb ob) n c, .slice base m cy]).run C.P w).andThen fun v w' => .ok (.value v) w' := by
    simp [execOp, resolve, invoke, builtin, hfit.ev hx, hfit.ev hy]
  rw [hexec]
  by_cases hr : n + m ≤ c
  · cases ob with
    | none =>
      have := h0 rfl
      subst this
      have hm0 : m = 0 := by omega
      subst hm0
      have hys : ys = [] := List.eq_nil_of_length_eq_zero hs.len
      subst hys
      have : (Builtin.append_ #[t, t] ty #[.slice none n 0, .slice base 0 cy]).run C.P w = .ok (.slice none n 0) w := by
        have hl := (hs.src hu h1 cy).len w
        have hc := (hs.src hu h1 cy).cells
        have hn0 : n = 0 := by omega
        subst hn0
        simp only [List.flatMap_nil] at hc
        simp [Builtin.append_, run_underlying hu, sizeOf, typeInfo, hti, hl, hsz, hc]
      simp only [sb, Option.map_none, this, Result.andThen_ok]
      refine kk none 0 j (by omega) (by omega) (fun _ => rfl) _ _ (hfit.put hd _) ?_
      rw [List.append_nil]
      exact hi.perm ht
    | some b =>
      have hb := hi.own b _ ht.mem
      have hlen : (arr f xs j).length = c * s := by
        simp only [arr, List.length_append, Wu hf, hj, hn]
        rw [← Nat.add_mul]; congr 1; omega
      have hnews : (ys.flatMap f).length = m * s := by rw [Wu hf, hs.len]
      have hfit2 : n * s + (ys.flatMap f).length ≤ (arr f xs j).toArray.size := by
        rw [hnews, List.size_toArray, hlen, ← Nat.add_mul]; exact Nat.mul_le_mul_right s hr
      have hall := (hs.src hu h1 cy).one
      have hcell : ∀ q, q < (ys.flatMap f).length → (w.cell? ⟨b, 0 + n * ti.size + q, none⟩).isSome = true := fun q hq => by
        rw [hsz, Nat.zero_add, hi.cell_own ht.mem, Array.getElem?_eq_getElem (by omega)]; rfl
      have hr2 := run_append_room_src (P := C.P) w t t ty e ti hu hti b 0 n c (.slice base m cy) m (ys.flatMap f) (by rw [hsz]; exact hs.src hu h1 cy) hr hcell (fun q _ => hi.frozen_own ht.mem _)
      rw [hsz, Nat.zero_add, Nd (P := C.P) hb hfit2 hall] at hr2
      simp only [sb, Option.map_some, hr2, Result.andThen_ok]
      refine kk (some b) c (j.drop (m * s)) hr ?_ (by simp) _ _ (hfit.put hd _) ?_
      · rw [List.length_drop, hj, ← Nat.sub_mul]; congr 1; omega
      · have : ((arr f xs j).toArray.toList.take (n * s) ++ ys.flatMap f ++ (arr f xs j).toArray.toList.drop (n * s + (ys.flatMap f).length)).toArray = (arr f (xs ++ ys) (j.drop (m * s))).toArray := by
          have e1 : (xs.flatMap f).length = n * s := by rw [Wu hf, hn]
          simp only [arr, List.flatMap_append]
          rw [hnews]
          congr 1
          rw [← e1, List.take_left', List.drop_append]
          · simp [e1, List.append_assoc, List.drop_eq_nil_of_le (show (xs.flatMap f).length ≤ n * s + m * s by omega)]
          · rfl
        rw [← this]
        exact hi.setRow ht
  · have hold : (Builtin.firstCells ti.size n (.slice (sb ob) n c)).run C.P w.drew = .ok (xs.flatMap f).toArray w.drew := by rw [hsz]; exact hro.drew.first c
    have hg2 := run_append_grow_src (P := C.P) w t t ty e ti z hu hti hz' (sb ob) n c (xs.flatMap f) hold (.slice base m cy) m (ys.flatMap f) (by rw [hsz]; exact hs.src hu h1 cy) (by omega) (by omega) (by
      rw [hb']; exact growslice_fits (by omega) hroom)
    simp only [hg2, Result.andThen_ok]
    have hcap : n + m ≤ grownCap w (n + m) c e := by unfold grownCap Question.cut; simp only; omega
    refine kk (some w.heap.size) (grownCap w (n + m) c e) (Builtin.zeroCells z.cells (grownCap w (n + m) c e - (n + m))).toList hcap (by rw [Array.length_toList, size_zeroCells, hT.zsize]) (by simp) _ _ (hfit.put hd _) ?_
    have e2 : ((xs.flatMap f ++ ys.flatMap f).toArray ++ Builtin.zeroCells z.cells (grownCap w (n + m) c e - (n + m))) = (arr f (xs ++ ys) (Builtin.zeroCells z.cells (grownCap w (n + m) c e - (n + m))).toList).toArray := by
      simp only [arr, List.flatMap_append]
      apply Array.ext'
      simp [List.append_assoc]
    rw [e2]
    have h3 := (hi.perm ht).drew.alloc (Obj.cells (arr f (xs ++ ys) (Builtin.zeroCells z.cells (grownCap w (n + m) c e - (n + m))).toList).toArray e (0, 0))
    exact h3.pick (Z2x (S := [(ob, .cells (arr f xs j).toArray e (0, 0))]) (by
      refine List.Perm.cons _ ?_
      exact (List.perm_append_comm (l₁ := [(ob, Obj.cells (arr f xs j).toArray e (0, 0))]) (l₂ := R))))
end rules
end Go.Acq
namespace Go.Acq
open Go Go.RowKit
structure Arc where
  fr : Int
  to : Int
  cap : Int
  deriving DecidableEq
instance : Inhabited Arc := ⟨⟨0, 0, 0⟩⟩
def Yk (a : Arc) : List Value := [.int .i64 a.fr, .int .i64 a.to, .int .i64 a.cap]
theorem arcC_len (a : Arc) : (Yk a).length = 3 := rfl
def Has (w : World) (b : Nat) (cs : List Value) : Prop := ∀ (j : Nat) v, cs[j]? = some v → w.cell? ⟨b, j, none⟩ = some v
section
variable {w w0 : World} {M : List Nat} {H : Heap} {b : Nat} {cs : List Value}
theorem Has.mono (h : Has w0 b cs) (hi : Inv w0 [] w H) : Has w b cs := fun j v hj => hi.cell_old (h j v hj) (by simp)
theorem Inv.has (hi : Inv w0 M w H) {T' : TypeId} {fr : Nat × Nat} (hm : (some b, Obj.cells cs.toArray T' fr) ∈ H) : Has w b cs := fun j v hj => by rw [hi.cell_own hm]; simpa using hj
theorem Inv.step {w' : World} {N : Heap} (h : Inv w0 [] w H) (g : Inv w [] w' N) : Inv w0 [] w' [] := (h.join0 g).pick Zf
end
section rules
variable {C : Cx} {ops : Array Oper} {Q : Exit → Act → World → Prop} {l : List Nat} {E : Env} {H R : Heap} {i d : Nat} {ty : TypeId} {pos : String} {af : Array Edge} {g : Option (Nat × Bool)}
end rules
theorem Z1i (x : Int) {n : Int} (h : 0 < n) : -n < x.tmod n := by
 have h1 := Int.tmod_lt_of_pos (-x) h
 rw [Int.neg_tmod] at h1; omega
theorem Z02 {α : Type} {xs : List α} {k : Nat} (h : k < xs.length) (d : α) : xs.getD k d ∈ xs := by
 rw [List.getD_eq_getElem?_getD, List.getElem?_eq_getElem h]; exact List.getElem_mem h
def Vo (x n : Int) : Int := if n < 1 then 0 else (x.tmod n + n).tmod n
theorem Gf {x n : Int} (h : 1 ≤ n) : 0 ≤ Vo x n ∧ Vo x n < n := by
 unfold Vo
 rw [if_neg (by omega)]
 have h1 := Int.tmod_lt_of_pos x (show 0 < n by omega)
 have h2 := Z1i x (show 0 < n by omega)
 have h3 := Int.tmod_lt_of_pos (x.tmod n + n) (show 0 < n by omega)
 have h4 := Int.tmod_nonneg n (show 0 ≤ x.tmod n + n by omega)
 omega
def Wt : Int → List Arc → Option Int
  | left, [] => some left
  | left, a :: as => if a.cap < 0 ∨ left < a.cap then none else Wt (left - a.cap) as
theorem Z4g {left : Int} {as : List Arc} {k : Nat} (hk : k < as.length) : Wt left (as.drop k) = if (as.getD k default).cap < 0 ∨ left < (as.getD k default).cap then none else Wt (left - (as.getD k default).cap) (as.drop (k + 1)) := by
 rw [List.drop_eq_getElem_cons hk, Wt, List.getD_eq_getElem?_getD, List.getElem?_eq_getElem hk]; rfl
def Va (N v : Int) : Bool := decide (0 ≤ v ∧ v < N)
def Ua (N : Int) (a : Arc) : Bool := Va N a.fr && Va N a.to
def Uo (a : Arc) : Bool := decide (0 ≤ a.cap)
def Vj (N S T : Int) (as : List Arc) : Int :=
  if ¬(2 ≤ N ∧ N ≤ 4096) then 10 else if ¬((as.length : Int) ≤ 16384) then 11 else if ¬(Va N S = true ∧ Va N T = true ∧ S ≠ T) then 12
  else if as.all (Ua N) = false then 13 else if as.all Uo = false then 14 else if (Wt 4611686018427387904 as).isNone then 15 else 0
section
variable {N S T : Int} {n : Nat} {al : List Arc}
end
end Go.Acq
namespace Go.Acq
open Go
abbrev i64ok (x : Int) : Prop := -9223372036854775808 ≤ x ∧ x ≤ 9223372036854775807
abbrev inb (i : Int) (n : Nat) : Prop := 0 ≤ i ∧ i < (n : Int)
abbrev mkok (p : Int) : Prop := 0 ≤ p ∧ p ≤ 4294967296
abbrev apok (n by' : Nat) : Prop := n * by' ≤ 140737488355328 ∧ n ≤ 4611686018427387904
def gd {α : Type} (c : Prop) [Decidable c] (m : Option α) : Option α := if c then m else none
theorem Yb {α : Type} {c : Prop} [Decidable c] {m : Option α} {o : α} (h : gd c m = some o) : c ∧ m = some o := by
 unfold gd at h; split at h
 · exact ⟨by assumption, h⟩
 · cases h
theorem Lw {α : Type} {c : Prop} [Decidable c] {m : Option α} (h : c) : gd c m = m := if_pos h
theorem Zu {α β : Type} {m : Option α} {k : α → Option β} {o : β} (h : Option.bind m k = some o) : ∃ a, m = some a ∧ k a = some o := by
 cases m with
 | none => cases h
 | some a => exact ⟨a, rfl, h⟩
theorem Zs {α : Type} {c : Prop} [Decidable c] {a b : Option α} {o : α} (h : (if c then a else b) = some o) : (c ∧ a = some o) ∨ (¬c ∧ b = some o) := by
 split at h
 · exact .inl ⟨by assumption, h⟩
 · exact .inr ⟨by assumption, h⟩
def Yu {S O : Type} (step : S → Option (S ⊕ O)) : Nat → S → Option O
  | 0, _ => none
  | n + 1, s => match step s with
    | none => none
    | some (.inl s') => Yu step n s'
    | some (.inr o) => some o
def Xc : Nat := 18446744073709551616
def Ny {S O : Type} (step : S → Option (S ⊕ O)) (n : Nat) (o : O) : S ⊕ O → Prop
  | .inl s => Yu step n s = some o
  | .inr p => p = o
theorem Vb {S O : Type} {step : S → Option (S ⊕ O)} {n : Nat} {s : S} {o : O} (h : Yu step n s = some o) : ∃ n' r, n = n' + 1 ∧ step s = some r ∧ Ny step n' o r := by
 cases n with
 | zero => cases h
 | succ n =>
  simp only [Yu] at h
  cases hs : step s with
  | none => rw [hs] at h; cases h
  | some r =>
   rw [hs] at h
   cases r with
   | inl s' => exact ⟨n, _, rfl, rfl, h⟩
   | inr p => exact ⟨n, _, rfl, rfl, by simpa [Ny] using h⟩
theorem Wm {S O : Type} {step : S → Option (S ⊕ O)} {n : Nat} {o : O} {s : S} {r : S ⊕ O} (h : some (.inl s) = some r) (c : Ny step n o r) : Yu step n s = some o := by
 injection h with h; subst h; exact c
theorem ret1 {α : Type} {a b : α} (h : some a = some b) : b = a := by injection h with h; exact h.symm
theorem ret2 {α β : Type} {a a' : α} {b b' : β} (h : some (a, b) = some (a', b')) : a' = a ∧ b' = b := by injection h with h; injection h with h1 h2; exact ⟨h1.symm, h2.symm⟩
theorem ret3 {α β γ : Type} {a a' : α} {b b' : β} {c c' : γ} (h : some (a, b, c) = some (a', b', c')) : a' = a ∧ b' = b ∧ c' = c := by
 injection h with h; injection h with h1 h; injection h with h2 h3; exact ⟨h1.symm, h2.symm, h3.symm⟩
def Ok {α : Type} (m : Option α) (Q : α → Prop) : Prop := ∃ a, m = some a ∧ Q a
theorem Ok.some {α : Type} {a : α} {Q : α → Prop} : Ok (Option.some a) Q ↔ Q a := ⟨fun ⟨b, h, hq⟩ => by injection h with h; subst h; exact hq, fun h => ⟨a, rfl, h⟩⟩
theorem Ok.gd {α : Type} {c : Prop} [Decidable c] {m : Option α} {Q : α → Prop} : Ok (Acq.gd c m) Q ↔ c ∧ Ok m Q := by
 constructor
 · rintro ⟨a, h, hq⟩; obtain ⟨h1, h2⟩ := Yb h; exact ⟨h1, a, h2, hq⟩
 · rintro ⟨h1, a, h2, hq⟩; exact ⟨a, by rw [Lw h1]; exact h2, hq⟩
theorem Ok.bind {α β : Type} {m : Option α} {k : α → Option β} {Q : β → Prop} : Ok (Option.bind m k) Q ↔ Ok m fun a => Ok (k a) Q := by
 constructor
 · rintro ⟨b, h, hq⟩; obtain ⟨a, h1, h2⟩ := Zu h; exact ⟨a, h1, b, h2, hq⟩
 · rintro ⟨a, h1, b, h2, hq⟩; exact ⟨b, by rw [h1]; exact h2, hq⟩
theorem Ok.ite {α : Type} {c : Prop} [Decidable c] {a b : Option α} {Q : α → Prop} : Ok (if c then a else b) Q ↔ (c → Ok a Q) ∧ (¬c → Ok b Q) := by
 by_cases h : c <;> simp [h]
theorem Ok.mono {α : Type} {m : Option α} {Q R : α → Prop} (h : Ok m Q) (hq : ∀ a, Q a → R a) : Ok m R := by
 obtain ⟨a, h1, h2⟩ := h; exact ⟨a, h1, hq a h2⟩
theorem Ok.of {α : Type} {m : Option α} {a : α} {Q : α → Prop} (h : m = Option.some a) (hq : Q a) : Ok m Q := ⟨a, h, hq⟩
theorem Ok.loop {S O : Type} {step : S → Option (S ⊕ O)} {n : Nat} {s0 : S} {Q : O → Prop} (I : S → Prop) (μ : S → Nat) (h0 : I s0) (hn : μ s0 < n)
    (hstep : ∀ s, I s → Ok (step s) fun r => match r with | .inl s' => I s' ∧ μ s' < μ s | .inr o => Q o) : Ok (Yu step n s0) Q := by
  induction n generalizing s0 with
  | zero => omega
  | succ n ih =>
    obtain ⟨r, h1, h2⟩ := hstep s0 h0
    simp only [Yu]
    rw [h1]
    cases r with
    | inl s' => exact ih h2.1 (by have := h2.2; omega)
    | inr o => exact ⟨o, rfl, h2⟩
end Go.Acq
namespace Go.Acq
theorem Wg {S O : Type} {step : S → Option (S ⊕ O)} {n : Nat} {o p : O} {r : S ⊕ O} (h : some (.inr p) = some r) (c : Ny step n o r) : o = p := by
 injection h with h; subst h; exact Eq.symm c
end Go.Acq
namespace Go.Acq
end Go.Acq
namespace Go.Acq
end Go.Acq
namespace Go.Acq
end Go.Acq
namespace Go.Acq
abbrev u64ok (x : Int) : Prop := 0 ≤ x ∧ x ≤ 18446744073709551615
end Go.Acq
namespace Go.Acq
theorem Ok.lp {S O : Type} {step : S → Option (S ⊕ O)} {n : Nat} {s0 : S} {Q : O → Prop} (I : S → Prop) (μ : S → Nat) (h0 : I s0) (hn : μ s0 < n)
    (hstep : ∀ s, I s → ∀ P : S ⊕ O → Prop, (∀ s', I s' → μ s' < μ s → P (.inl s')) → (∀ o, Q o → P (.inr o)) → Ok (step s) P) : Ok (Yu step n s0) Q :=
  Ok.loop I μ h0 hn fun s hs => hstep s hs _ (fun s' h1 h2 => ⟨h1, h2⟩) (fun o h => h)
end Go.Acq
namespace Go.Acq
end Go.Acq
namespace Go.Acq
open Go Go.RowKit
structure Sp where
  deps : List Nat
  eff : Bool
  eats : List Nat
  rel : List Value → Value → Heap → Prop
def relV (u : Value) : List Value → Value → Heap → Prop := fun _ v e => v = u ∧ e = []
def Yd (S : List Sp) (i : Nat) : List Nat := match S[i]? with | some s => s.deps | none => []
def Yg (S : List Sp) (i : Nat) : Bool := match S[i]? with | some s => s.eff | none => false
def Vk (S : List Sp) (i : Nat) : List Nat := match S[i]? with | some s => s.eats | none => []
def Kr (S : List Sp) (done : Nat → Bool) (j : Nat) : Bool := (List.range S.length).any fun q => done q && (Vk S q).any (Nat.beq j)
def Wa (S : List Sp) (done : Nat → Bool) (j : Nat) : Bool := done j && !Kr S done j
def Vq (S : List Sp) (j : Nat) : Bool := (List.range S.length).any fun q => (Vk S q).any (Nat.beq j)
def Kd (S : List Sp) (i : Nat) : List Nat := (Yd S i).filter fun j => !(Vk S i).any (Nat.beq j)
def Ve (S : List Sp) (i : Nat) : List Value → Value → Heap → Prop := match S[i]? with | some s => s.rel | none => fun _ _ _ => False
def Yf (ops : Array Oper) (i : Nat) : Option Nat := (ops[i]?).bind (·.dst)
def Xl (ops : Array Oper) (vs : Nat → Value) : List Nat → Env
  | [] => []
  | j :: l => match Yf ops j with
    | some d => (d, vs j) :: Xl ops vs l
    | none => Xl ops vs l
def Yt (es : Nat → Heap) : List Nat → Heap
  | [] => []
  | j :: l => es j ++ Yt es l
def Vc (S : List Sp) (vs : Nat → Value) (es : Nat → Heap) : List Nat → Prop
  | [] => True
  | j :: l => Ve S j ((Yd S j).map vs) (vs j) (es j) ∧ Vc S vs es l
def Vv (d : Option Nat) (v : Value) (E : Env) : Env := match d with | some d => (d, v) :: E | none => E
def Xx (ops : Array Oper) : List Nat → List Nat
  | [] => []
  | j :: l => match Yf ops j with
    | some d => d :: Xx ops l
    | none => Xx ops l
def Wy (S : List Sp) (i : Nat) : Nat := ((List.range i).filter (Yg S)).length
def Kg (ops : Array Oper) (S : List Sp) (hd : List (List Nat)) : Bool :=
  ((List.range S.length).all fun i =>
    ((Yd S i).all fun j => Nat.blt j S.length && We ops ops.size i j) && Vu (Yd S i) &&
    ((Vk S i).all fun j => Nat.blt j i && (Yd S i).any (Nat.beq j) && ((List.range S.length).all fun q => Nat.beq q i || (!(Vk S q).any (Nat.beq j) && (!(Yd S q).any (Nat.beq j) || We ops ops.size i q)))) && (!Yg S i || (Vk S i).isEmpty) &&
    (!Yg S i || (((List.range i).all fun j => !Yg S j || We ops ops.size i j) &&
      ((hd.getD (Wy S i + 1) []).all fun j => Nat.beq j i || (Nat.blt j S.length && We ops ops.size i j))))) &&
  (hd.getD 0 []).isEmpty
section
variable {C : Cx} {ops : Array Oper} {Q : Exit → Act → World → Prop} {E : Env} {H : Heap}
def ObQ (C : Cx) (ops : Array Oper) (Q : Exit → Act → World → Prop) (S : List Sp) (W : Env) (Hc : Heap) (i : Nat) : Prop :=
  ∀ (vs : Nat → Value) (es : Nat → Heap) (Es : Env) (Hx : Heap), Vc S vs es (Yd S i) →
    TO C ops (fun e a w => match e with
      | .normal => ∃ v e', Ve S i ((Yd S i).map vs) v e' ∧ Fits C.n C.D (Vv (Yf ops i) v (Xl ops vs (Yd S i) ++ (W ++ Es))) a ∧ Inv C.w0 C.M w (e' ++ (Hc ++ (Yt es (Kd S i) ++ Hx)))
      | e => Q e a w) [i] (Xl ops vs (Yd S i) ++ (W ++ Es)) (Hc ++ (Yt es (Yd S i) ++ Hx))
def ObE (C : Cx) (ops : Array Oper) (Q : Exit → Act → World → Prop) (S : List Sp) (HR : Nat → List Value → Heap → Prop) (hd : List (List Nat)) (W : Env) (Hc : Heap) (i : Nat) : Prop :=
  ∀ (vs : Nat → Value) (es : Nat → Heap) (Es : Env) (Hx hb : Heap), Vc S vs es (Yd S i) → HR (Wy S i) ((hd.getD (Wy S i) []).map vs) hb →
    TO C ops (fun e a w => match e with
      | .normal => ∃ v hb', Ve S i ((Yd S i).map vs) v [] ∧ HR (Wy S i + 1) ((hd.getD (Wy S i + 1) []).map (fun j => cond (Nat.beq j i) v (vs j))) hb' ∧
          Fits C.n C.D (Vv (Yf ops i) v (Xl ops vs (Yd S i) ++ (W ++ Es))) a ∧ Inv C.w0 C.M w (hb' ++ (Hc ++ (Yt es (Yd S i) ++ Hx)))
      | e => Q e a w) [i] (Xl ops vs (Yd S i) ++ (W ++ Es)) (hb ++ (Hc ++ (Yt es (Yd S i) ++ Hx)))
def ObsG (C : Cx) (ops : Array Oper) (Q : Exit → Act → World → Prop) (S : List Sp) (HR : Nat → List Value → Heap → Prop) (hd : List (List Nat)) (W : Env) (Hc : Heap) : List Nat → Prop
  | [] => True
  | i :: l => (cond (Yg S i) (ObE C ops Q S HR hd W Hc i) (ObQ C ops Q S W Hc i)) ∧ ObsG C ops Q S HR hd W Hc l
theorem ObsG.get {S : List Sp} {HR : Nat → List Value → Heap → Prop} {hd : List (List Nat)} {W : Env} {Hc : Heap} : ∀ {l : List Nat}, ObsG C ops Q S HR hd W Hc l → ∀ i, i ∈ l → (cond (Yg S i) (ObE C ops Q S HR hd W Hc i) (ObQ C ops Q S W Hc i))
 | [], _, i, h => by cases h
 | j :: l, ⟨h1, h2⟩, i, h => by
  rcases List.mem_cons.1 h with rfl | h
  · exact h1
  · exact ObsG.get h2 i h
theorem Li {vs : Nat → Value} {t : Nat} {v : Value} : ∀ {l : List Nat}, (t, v) ∈ Xl ops vs l → ∃ j, j ∈ l ∧ Yf ops j = some t ∧ v = vs j
 | [], h => by simp [Xl] at h
 | j :: l, h => by
  simp only [Xl] at h
  cases hs : Yf ops j with
  | none => rw [hs] at h; obtain ⟨q, h1, h2⟩ := Li h; exact ⟨q, .tail _ h1, h2⟩
  | some d =>
   rw [hs] at h
   rcases List.mem_cons.1 h with h | h
   · injection h with h1 h2; subst h1; subst h2; exact ⟨j, .head _, hs, rfl⟩
   · obtain ⟨q, h1, h2⟩ := Li h; exact ⟨q, .tail _ h1, h2⟩
theorem mem_slotsG {d : Nat} : ∀ {l : List Nat}, d ∈ Xx ops l ↔ ∃ j, j ∈ l ∧ Yf ops j = some d
 | [] => by simp [Xx]
 | j :: l => by
  simp only [Xx]
  cases hs : Yf ops j with
  | none =>
   rw [mem_slotsG (l := l)]
   constructor
   · rintro ⟨q, h1, h2⟩; exact ⟨q, .tail _ h1, h2⟩
   ·
    rintro ⟨q, h1, h2⟩
    rcases List.mem_cons.1 h1 with e | e
    · subst e; rw [hs] at h2; cases h2
    · exact ⟨q, e, h2⟩
  | some u =>
   simp only [List.mem_cons, mem_slotsG (l := l)]
   constructor
   ·
    rintro (h | ⟨q, h1, h2⟩)
    · subst h; exact ⟨j, .inl rfl, hs⟩
    · exact ⟨q, .inr h1, h2⟩
   ·
    rintro ⟨q, h1 | h1, h2⟩
    · subst h1; rw [hs] at h2; injection h2 with h2; exact .inl h2.symm
    · exact .inr ⟨q, h1, h2⟩
theorem Z01 : ∀ {l : List Nat}, (Xx ops l).Nodup → ∀ i j d, i ∈ l → j ∈ l → Yf ops i = some d → Yf ops j = some d → i = j
 | [], _, i, j, d, hi, _, _, _ => by cases hi
 | q :: l, hn, i, j, d, hi, hj, h1, h2 => by
  simp only [Xx] at hn
  cases hs : Yf ops q with
  | none =>
   rw [hs] at hn
   have hi' : i ∈ l := by rcases List.mem_cons.1 hi with e | e; (subst e; rw [hs] at h1; cases h1); exact e
   have hj' : j ∈ l := by rcases List.mem_cons.1 hj with e | e; (subst e; rw [hs] at h2; cases h2); exact e
   exact Z01 hn i j d hi' hj' h1 h2
  | some u =>
   rw [hs] at hn
   simp only [List.nodup_cons] at hn
   rcases List.mem_cons.1 hi with e | hi' <;> rcases List.mem_cons.1 hj with e' | hj'
   · rw [e, e']
   · subst e; rw [hs] at h1; injection h1 with h1; subst h1; exact absurd (mem_slotsG.2 ⟨j, hj', h2⟩) hn.1
   · subst e'; rw [hs] at h2; injection h2 with h2; subst h2; exact absurd (mem_slotsG.2 ⟨i, hi', h1⟩) hn.1
   · exact Z01 hn.2 i j d hi' hj' h1 h2
theorem Z0k {S : List Sp} {vs : Nat → Value} {es : Nat → Heap} : ∀ {l : List Nat}, (∀ j, j ∈ l → Ve S j ((Yd S j).map vs) (vs j) (es j)) → Vc S vs es l
 | [], _ => trivial
 | j :: l, h => ⟨h j (.head _), Z0k fun q hq => h q (.tail _ hq)⟩
def Zz (es : Nat → Heap) (done : Nat → Bool) (l : List Nat) : Heap := l.flatMap fun j => if done j then es j else []
theorem Z2t : ∀ (D l : List Nat), D.Nodup → (∀ j, j ∈ D → j ∈ l) → ∃ r, List.Perm l (D ++ r)
 | [], l, _, _ => ⟨l, List.Perm.refl _⟩
 | j :: D, l, hn, hs => by
  simp only [List.nodup_cons] at hn
  have hp := List.perm_cons_erase (hs j (.head _))
  obtain ⟨r, hr⟩ := Z2t D (l.erase j) hn.2 (fun q hq => by
   have hql := hs q (.tail _ hq)
   have hne : q ≠ j := by rintro rfl; exact hn.1 hq
   exact (List.mem_erase_of_ne hne).2 hql)
  exact ⟨r, hp.trans (List.Perm.cons j hr)⟩
theorem Z2m {es : Nat → Heap} {done : Nat → Bool} : ∀ {D : List Nat}, (∀ j, j ∈ D → done j = true) → Zz es done D = Yt es D
 | [], _ => rfl
 | j :: D, h => by
  have ih := Z2m (es := es) (D := D) (fun q hq => h q (.tail _ hq))
  unfold Zz at ih ⊢
  rw [List.flatMap_cons, Yt, if_pos (h j (.head _)), ih]
theorem Z23 {es : Nat → Heap} {done : Nat → Bool} {i : Nat} (e' : Heap) (hdi : done i = false) : ∀ {l : List Nat}, l.Nodup → i ∈ l →
    List.Perm (Zz (fun j => if j = i then e' else es j) (fun q => if q = i then true else done q) l) (e' ++ Zz es done l)
  | [], _, h => by cases h
  | j :: l, hn, hm => by
    simp only [List.nodup_cons] at hn
    have hcongr : ∀ l : List Nat, i ∉ l → Zz (fun j => if j = i then e' else es j) (fun q => if q = i then true else done q) l = Zz es done l := by
      intro l hl
      unfold Zz
      induction l with
      | nil => rfl
      | cons q l ih =>
        have hq : q ≠ i := by rintro rfl; exact hl (.head _)
        rw [List.flatMap_cons, List.flatMap_cons, ih (fun h => hl (.tail _ h))]
        simp [hq]
    by_cases hji : j = i
    · subst hji
      have h1 : Zz (fun q => if q = j then e' else es q) (fun q => if q = j then true else done q) (j :: l) = e' ++ Zz es done l := by
        have := hcongr l hn.1
        unfold Zz at this ⊢
        rw [List.flatMap_cons, this]; simp
      have h2 : Zz es done (j :: l) = Zz es done l := by
        unfold Zz; rw [List.flatMap_cons, hdi]; simp
      rw [h1, h2]
    · have hm' : i ∈ l := by rcases List.mem_cons.1 hm with e | e; (exact absurd e.symm hji); exact e
      have ih := Z23 (es := es) e' hdi hn.2 hm'
      have h1 : Zz (fun q => if q = i then e' else es q) (fun q => if q = i then true else done q) (j :: l) = (if done j then es j else []) ++ Zz (fun q => if q = i then e' else es q) (fun q => if q = i then true else done q) l := by
        unfold Zz; rw [List.flatMap_cons]; simp [hji]
      have h2 : Zz es done (j :: l) = (if done j then es j else []) ++ Zz es done l := by
        unfold Zz; rw [List.flatMap_cons]
      rw [h1, h2]
      refine (List.Perm.append_left _ ih).trans ?_
      rw [← List.append_assoc, ← List.append_assoc]
      exact List.Perm.append_right _ List.perm_append_comm
theorem done_eat {es : Nat → Heap} {live live' : Nat → Bool} {i : Nat} (e' : Heap) {D ea : List Nat} {l : List Nat} (hl : l.Nodup) (hil : i ∈ l) (hiD : i ∉ D) (hD : D.Nodup) (hDl : ∀ j, j ∈ D → j ∈ l ∧ live j = true)
    (hli : live i = false) (hli' : live' i = true) (h1 : ∀ j, j ≠ i → live' j = (live j && !ea.any (Nat.beq j))) (hea : ∀ j, j ∈ ea → j ∈ D) :
    ∃ Hx, List.Perm (Zz es live l) (Yt es D ++ Hx) ∧ List.Perm (Zz (fun j => if j = i then e' else es j) live' l) (e' ++ (Yt es (D.filter fun j => !ea.any (Nat.beq j)) ++ Hx)) := by
  obtain ⟨r, hr⟩ := Z2t D l hD (fun j hj => (hDl j hj).1)
  have hnd : (D ++ r).Nodup := (List.Perm.nodup_iff hr).1 hl
  have hdis := (List.nodup_append.1 hnd).2.2
  have hrn := (List.nodup_append.1 hnd).2.1
  have hir : i ∈ r := by
    rcases List.mem_append.1 ((List.Perm.mem_iff hr).1 hil) with h | h
    · exact absurd h hiD
    · exact h
  refine ⟨Zz es live r, ?_, ?_⟩
  · have h2 : List.Perm (Zz es live l) (Zz es live (D ++ r)) := hr.flatMap_right _
    rw [show Zz es live (D ++ r) = Zz es live D ++ Zz es live r by simp [Zz], Z2m (fun j hj => (hDl j hj).2)] at h2
    exact h2
  · have h2 : List.Perm (Zz (fun j => if j = i then e' else es j) live' l) (Zz (fun j => if j = i then e' else es j) live' (D ++ r)) := hr.flatMap_right _
    rw [show Zz (fun j => if j = i then e' else es j) live' (D ++ r) = Zz (fun j => if j = i then e' else es j) live' D ++ Zz (fun j => if j = i then e' else es j) live' r by simp [Zz]] at h2
    have hDe : ∀ D : List Nat, i ∉ D → (∀ j, j ∈ D → live j = true) → Zz (fun j => if j = i then e' else es j) live' D = Yt es (D.filter fun j => !ea.any (Nat.beq j)) := by
      intro D
      induction D with
      | nil => intro _ _; rfl
      | cons j D ih =>
        intro hi hj
        have hji : j ≠ i := by rintro rfl; exact hi (.head _)
        have ih := ih (fun h => hi (.tail _ h)) (fun q hq => hj q (.tail _ hq))
        unfold Zz at ih ⊢
        rw [List.flatMap_cons, ih, h1 j hji, hj j (.head _), Bool.true_and, List.filter_cons]
        simp only [if_neg hji]
        cases (!ea.any (Nat.beq j)) <;> simp [Yt]
    rw [hDe D hiD (fun j hj => (hDl j hj).2)] at h2
    have hre : Zz (fun j => if j = i then e' else es j) live' r = Zz (fun j => if j = i then e' else es j) (fun q => if q = i then true else live q) r := by
      have key : ∀ r : List Nat, (∀ j, j ∈ r → j ∉ ea) → Zz (fun j => if j = i then e' else es j) live' r = Zz (fun j => if j = i then e' else es j) (fun q => if q = i then true else live q) r := by
        intro r
        induction r with
        | nil => intro _; rfl
        | cons j r ih =>
          intro hj
          have ih := ih fun q hq => hj q (.tail _ hq)
          unfold Zz at ih ⊢
          rw [List.flatMap_cons, List.flatMap_cons, ih]
          congr 1
          by_cases e : j = i
          · subst e; simp [hli']
          · have : ea.any (Nat.beq j) = false := by
              rw [Bool.eq_false_iff]
              intro h
              exact hj j (.head _) (any_beq.1 h)
            simp [e, h1 j e, this]
      exact key r fun j hj h => hdis j (hea j h) j hj rfl
    rw [hre] at h2
    have h3 := Z23 (es := es) (done := live) e' hli hrn hir
    refine h2.trans ((List.Perm.append_left _ h3).trans ?_)
    rw [← List.append_assoc, ← List.append_assoc]
    exact List.Perm.append_right _ List.perm_append_comm
theorem wpOp_Q {ρ : Option Nat} {P : Program} {i : Nat} {K : Act → World → Prop} {a : Act} {w : World}
    (h : wpOpsIn (FW ρ) 0 P ops (fun e a w => match e with | .normal => K a w | e => Q e a w) [i] a w) : wpOpIn (FW ρ) 0 P ops Q i K a w := by
  rw [wpOpsIn_cons] at h
  unfold wpOpIn at h ⊢
  cases ho : ops[i]? with
  | none => rw [ho] at h; exact h
  | some o =>
    rw [ho] at h
    simp only at h ⊢
    split
    · rename_i hwt
      simp only [hwt, if_true] at h
      refine ⟨h.1, ?_⟩
      have h2 := h.2
      generalize (o.semAt (FW ρ).round a.eval).run P w = r at h2 ⊢
      cases r with
      | ok x w' => cases x <;> exact h2
      | halt x w' => cases x <;> exact h2
    · rename_i hwt
      simp only [hwt, if_false, Bool.false_eq_true] at h
      exact h
def rdH : List (Nat × Nat × Heap) → Nat → Heap
  | [], _ => []
  | (j, _, R) :: l, i => cond (Nat.beq j i) R (rdH l i)
def rdK : List (Nat × Nat × Heap) → Nat → Option Nat
  | [], _ => none
  | (j, k, _) :: l, i => cond (Nat.beq j i) (some k) (rdK l i)
def RdOk (HR : Nat → List Value → Heap → Prop) : List (Nat × Nat × Heap) → Prop
  | [] => True
  | (_, k, R) :: l => (∀ r, Nat.ble r k = true → ∀ vl hb, HR r vl hb → ∃ rest, List.Perm hb (R ++ rest)) ∧ RdOk HR l
def goodR (ops : Array Oper) (S : List Sp) (rd : List (Nat × Nat × Heap)) : Bool :=
  rd.all fun p => (List.range S.length).any fun q => Yg S q && Nat.beq (Wy S q) p.2.1 && We ops ops.size q p.1
theorem RdOk.get {HR : Nat → List Value → Heap → Prop} : ∀ {rd : List (Nat × Nat × Heap)}, RdOk HR rd → ∀ i r vl hb, (∀ k, rdK rd i = some k → r ≤ k) → HR r vl hb → ∃ rest, List.Perm hb (rdH rd i ++ rest)
 | [], _, i, r, vl, hb, _, _ => ⟨hb, List.Perm.refl _⟩
 | (j, k, R) :: l, ⟨h1, h2⟩, i, r, vl, hb, hk, hh => by
  simp only [rdH]
  cases hb' : Nat.beq j i with
  | true =>
   exact h1 r (Nat.ble_eq_true_of_le (hk k (by simp only [rdK, hb', cond_true]))) vl hb hh
  | false => exact RdOk.get h2 i r vl hb (fun k' h => hk k' (by simp only [rdK, hb', cond_false]; exact h)) hh
theorem goodR.get {ops : Array Oper} {S : List Sp} : ∀ {rd : List (Nat × Nat × Heap)}, goodR ops S rd = true → ∀ i k, rdK rd i = some k → ∃ q, q < S.length ∧ Yg S q = true ∧ Wy S q = k ∧ We ops ops.size q i = true
 | [], _, i, k, h => by cases h
 | (j, k', R) :: l, hg, i, k, h => by
  simp only [goodR, List.all_cons, Bool.and_eq_true] at hg
  simp only [rdK] at h
  cases hb' : Nat.beq j i with
  | true =>
   rw [hb'] at h
   injection h with h
   subst h
   have := Nat.eq_of_beq_eq_true hb'
   subst this
   obtain ⟨q, hq, h2⟩ := List.any_eq_true.1 hg.1
   simp only [Bool.and_eq_true] at h2
   exact ⟨q, List.mem_range.1 hq, h2.1.1, Nat.eq_of_beq_eq_true h2.1.2, h2.2⟩
  | false => rw [hb'] at h; exact goodR.get hg.2 i k h
def ObE2 (C : Cx) (ops : Array Oper) (Q : Exit → Act → World → Prop) (S : List Sp) (HR : Nat → List Value → Heap → Prop) (hd : List (List Nat)) (W : Env) (Hc : Heap) (i : Nat) : Prop :=
  ∀ (vs : Nat → Value) (es : Nat → Heap) (Es : Env) (Hx hb : Heap), Vc S vs es (Yd S i) → HR (Wy S i) ((hd.getD (Wy S i) []).map vs) hb →
    TO C ops (fun e a w => match e with
      | .normal => ∃ v hb' e', Ve S i ((Yd S i).map vs) v e' ∧ HR (Wy S i + 1) ((hd.getD (Wy S i + 1) []).map (fun j => cond (Nat.beq j i) v (vs j))) hb' ∧
          Fits C.n C.D (Vv (Yf ops i) v (Xl ops vs (Yd S i) ++ (W ++ Es))) a ∧ Inv C.w0 C.M w (hb' ++ (Hc ++ (e' ++ (Yt es (Yd S i) ++ Hx))))
      | e => Q e a w) [i] (Xl ops vs (Yd S i) ++ (W ++ Es)) (hb ++ (Hc ++ (Yt es (Yd S i) ++ Hx)))
def ObsG3 (C : Cx) (ops : Array Oper) (Q : Exit → Act → World → Prop) (S : List Sp) (HR : Nat → List Value → Heap → Prop) (hd : List (List Nat)) (rd : List (Nat × Nat × Heap)) (W : Env) (Hc : Heap) : List Nat → Prop
  | [] => True
  | i :: l => (cond (Yg S i) (ObE2 C ops Q S HR hd W Hc i) (ObQ C ops Q S W (rdH rd i ++ Hc) i)) ∧ ObsG3 C ops Q S HR hd rd W Hc l
theorem ObsG3.get {S : List Sp} {HR : Nat → List Value → Heap → Prop} {hd : List (List Nat)} {rd : List (Nat × Nat × Heap)} {W : Env} {Hc : Heap} : ∀ {l : List Nat}, ObsG3 C ops Q S HR hd rd W Hc l → ∀ i, i ∈ l → (cond (Yg S i) (ObE2 C ops Q S HR hd W Hc i) (ObQ C ops Q S W (rdH rd i ++ Hc) i))
 | [], _, i, h => by cases h
 | j :: l, ⟨h1, h2⟩, i, h => by
  rcases List.mem_cons.1 h with rfl | h
  · exact h1
  · exact ObsG3.get h2 i h
theorem Z2k {id : Nat} (S : List Sp) (HR : Nat → List Value → Heap → Prop) (hd : List (List Nat)) (rd : List (Nat × Nat × Heap)) (hb0 Hc : Heap)
    (hm : C.P.follows .mixedOrders = true) (hb : Wq ops = true) (ht : Uk ops S.length = true) (hgood : Kg ops S hd = true) (hms : Nat.ble S.length ops.size = true)
    (hn : Vu (Xx ops (List.range S.length)) = true) (hgr : goodR ops S rd = true) (hro : RdOk HR rd) (h0 : HR 0 [] hb0) (hH : Pick (hb0 ++ Hc) H)
    (obs : ObsG3 C ops Q S HR hd rd (wo (Xx ops (List.range S.length)) E) Hc (List.range S.length))
    (k : ∀ (vs : Nat → Value) (es : Nat → Heap) (hb : Heap), Vc S vs es (List.range S.length) → HR ((List.range S.length).filter (Yg S)).length ((hd.getD ((List.range S.length).filter (Yg S)).length []).map vs) hb →
      TO C ops Q (List.range' S.length (ops.size - S.length)) (Xl ops vs (List.range S.length) ++ wo (Xx ops (List.range S.length)) E) (hb ++ (Hc ++ Yt es ((List.range S.length).filter fun j => !Vq S j)))) :
    T C (.region id ops true) Q E H := by
  intro a w hf hi
  have hms' := Nat.le_of_ble_eq_true hms
  have hnd := Rf hn
  simp only [Kg, Bool.and_eq_true] at hgood
  obtain ⟨hg, hd0⟩ := hgood
  have hg' : ∀ i, i < S.length → _ := fun i hi => List.all_eq_true.1 hg i (List.mem_range.2 hi)
  have hd0' : hd.getD 0 [] = [] := by simpa using hd0
  let W := wo (Xx ops (List.range S.length)) E
  have hW : ∀ t v, find W t = some v → find E t = some v ∧ ∀ j, j < S.length → Yf ops j ≠ some t := fun t v h => by
    obtain ⟨h1, h2⟩ := Z0i E _ t v h
    exact ⟨h2, fun j hj hs => h1 (mem_slotsG.2 ⟨j, List.mem_range.2 hj, hs⟩)⟩
  let rk : (Nat → Bool) → Nat := fun done => ((List.range S.length).filter (fun i => Yg S i && done i)).length
  refine Z2e (m := S.length) (Jp := fun done a w => ∃ (vs : Nat → Value) (es : Nat → Heap) (hb : Heap) (Es : Env),
      Fits C.n C.D Es a ∧ (∀ j d, j < S.length → done j = true → Yf ops j = some d → find Es d = some (vs j)) ∧ (∀ t v, find W t = some v → find Es t = some v) ∧
      (∀ j, j < S.length → done j = true → Ve S j ((Yd S j).map vs) (vs j) (es j)) ∧ (∀ j, j ∈ hd.getD (rk done) [] → j < S.length ∧ done j = true) ∧
      HR (rk done) ((hd.getD (rk done) []).map vs) hb ∧ Inv C.w0 C.M w (hb ++ (Hc ++ Zz es (Wa S done) (List.range S.length))))
    hm hb ht hms' ?_ ?_ ?_
  · rintro done i o a w hil ho hdi hcl hafter _ ⟨vs, es, hb, Es, hfit, hfacts, hbase, hrels, hhd, hHR, hinv⟩
    have hgi := hg' i hil
    simp only [Bool.and_eq_true] at hgi
    obtain ⟨⟨⟨⟨hdeps, hdnd⟩, heat⟩, heate⟩, heffs⟩ := hgi
    have hdone : ∀ j, We ops ops.size i j = true → done j = true := fun j hj => Ki hcl _ i j hj (fun o' ho' => by rw [ho] at ho'; injection ho' with ho'; subst ho'; exact hafter)
    have hdd : ∀ j, j ∈ Yd S i → j < S.length ∧ done j = true := fun j hj => by
      have := List.all_eq_true.1 hdeps j hj
      simp only [Bool.and_eq_true] at this
      exact ⟨by simpa using this.1, hdone j this.2⟩
    have hreld : Vc S vs es (Yd S i) := Z0k fun j hj => hrels j (hdd j hj).1 (hdd j hj).2
    have heat' : ∀ q, q < S.length → ∀ j, j ∈ Vk S q → j < q ∧ j ∈ Yd S q ∧ ∀ p, p < S.length → p ≠ q → j ∉ Vk S p ∧ (j ∈ Yd S p → We ops ops.size q p = true) := by
      intro q hq j hj
      have h1 := hg' q hq
      simp only [Bool.and_eq_true] at h1
      have h2 := List.all_eq_true.1 h1.1.1.2 j hj
      simp only [Bool.and_eq_true] at h2
      refine ⟨by simpa using h2.1.1, any_beq.1 h2.1.2, fun p hp hpq => ?_⟩
      have h3 := List.all_eq_true.1 h2.2 p (List.mem_range.2 hp)
      simp only [Bool.or_eq_true, Bool.and_eq_true, Bool.not_eq_true'] at h3
      rcases h3 with h3 | ⟨h3, h4⟩
      · exact absurd (Nat.eq_of_beq_eq_true h3) hpq
      · refine ⟨fun hm => (by rw [any_beq.2 hm] at h3; cases h3), fun hm => ?_⟩
        rcases h4 with h4 | h4
        · rw [any_beq.2 hm] at h4; cases h4
        · exact h4
    have hcl' : ∀ q, q < S.length → done q = true → ∀ p, We ops ops.size q p = true → done p = true := fun q hq hdq p hqp =>
      Ki hcl _ q p hqp (fun o' ho' => hcl q o' ho' hdq)
    have hlive : ∀ j, j ∈ Yd S i → Wa S done j = true := by
      intro j hj
      unfold Wa
      rw [(hdd j hj).2, Bool.true_and, Bool.not_eq_true', Bool.eq_false_iff]
      intro he
      obtain ⟨q, hq, h2⟩ := List.any_eq_true.1 he
      simp only [Bool.and_eq_true] at h2
      have hqS := List.mem_range.1 hq
      have hqi : q ≠ i := by rintro rfl; rw [hdi] at h2; cases h2.1
      have h3 := ((heat' q hqS j (any_beq.1 h2.2)).2.2 i hil (fun e => hqi e.symm)).2 hj
      have := hcl' q hqS h2.1 i h3
      rw [hdi] at this; cases this
    have hiD : i ∉ Yd S i := fun hm => by
      have := (hdd i hm).2
      rw [hdi] at this; cases this
    have hstepL : ∀ j, j ≠ i → Wa S (fun q => if q = i then true else done q) j = (Wa S done j && !(Vk S i).any (Nat.beq j)) := by
      intro j hji
      unfold Wa
      simp only [if_neg hji]
      have : Kr S (fun q => if q = i then true else done q) j = (Kr S done j || (Vk S i).any (Nat.beq j)) := by
        rw [Bool.eq_iff_iff]
        simp only [Kr, List.any_eq_true, Bool.or_eq_true, Bool.and_eq_true]
        constructor
        · rintro ⟨q, hq, h1, h2⟩
          by_cases e : q = i
          · subst e; exact .inr h2
          · rw [if_neg e] at h1; exact .inl ⟨q, hq, h1, h2⟩
        · rintro (⟨q, hq, h1, h2⟩ | h2)
          · exact ⟨q, hq, by rw [h1]; simp, h2⟩
          · exact ⟨i, List.mem_range.2 hil, by simp, h2⟩
      rw [this]
      cases done j <;> cases Kr S done j <;> cases (Vk S i).any (Nat.beq j) <;> rfl
    have hlivei : Wa S (fun q => if q = i then true else done q) i = true := by
      unfold Wa
      simp only [if_true]
      rw [Bool.true_and, Bool.not_eq_true', Bool.eq_false_iff]
      intro he
      obtain ⟨q, hq, h2⟩ := List.any_eq_true.1 he
      simp only [Bool.and_eq_true] at h2
      have hqS := List.mem_range.1 hq
      obtain ⟨h3, h4, h5⟩ := heat' q hqS i (any_beq.1 h2.2)
      by_cases e : q = i
      · subst e; omega
      · have hdq : done q = true := by have := h2.1; rwa [if_neg e] at this
        have h6 := hg' q hqS
        simp only [Bool.and_eq_true] at h6
        have h7 := List.all_eq_true.1 h6.1.1.1.1 i h4
        simp only [Bool.and_eq_true] at h7
        have := hcl' q hqS hdq i h7.2
        rw [hdi] at this; cases this
    have hpermE : ∀ e' : Heap, ∃ Hx, List.Perm (Zz es (Wa S done) (List.range S.length)) (Yt es (Yd S i) ++ Hx) ∧
        List.Perm (Zz (fun j => if j = i then e' else es j) (Wa S (fun q => if q = i then true else done q)) (List.range S.length)) (e' ++ (Yt es (Kd S i) ++ Hx)) := fun e' =>
      done_eat e' List.nodup_range (List.mem_range.2 hil) hiD (Rf hdnd) (fun j hj => ⟨List.mem_range.2 (hdd j hj).1, hlive j hj⟩) (by unfold Wa; rw [hdi]; rfl) hlivei hstepL (fun j hj => (heat' i hil j hj).2.1)
    obtain ⟨Hx, hHx, hHx'⟩ : ∃ Hx, List.Perm (Zz es (Wa S done) (List.range S.length)) (Yt es (Yd S i) ++ Hx) ∧
        ∀ e' : Heap, List.Perm (Zz (fun j => if j = i then e' else es j) (Wa S (fun q => if q = i then true else done q)) (List.range S.length)) (e' ++ (Yt es (Kd S i) ++ Hx)) := by
      obtain ⟨Hx, h1, _⟩ := hpermE []
      refine ⟨Hx, h1, fun e' => ?_⟩
      obtain ⟨Hy, h2, h3⟩ := hpermE e'
      exact h3.trans (List.Perm.append_left _ (List.Perm.append_left _ ((List.perm_append_left_iff _).1 (h2.symm.trans h1))))
    have hsub : ∀ t v, find (Xl ops vs (Yd S i) ++ (W ++ Es)) t = some v → find Es t = some v := by
      intro t v h
      rw [Gh, Gh] at h
      cases h1 : find (Xl ops vs (Yd S i)) t with
      | some u =>
        rw [h1] at h; simp at h; subst h
        obtain ⟨j, hj, hs, rfl⟩ := Li (Z0g h1)
        exact hfacts j t (hdd j hj).1 (hdd j hj).2 hs
      | none =>
        rw [h1] at h
        simp only [Option.none_or] at h
        cases h2 : find W t with
        | some u => rw [h2] at h; simp at h; subst h; exact hbase t u h2
        | none => rw [h2] at h; simpa using h
    have hsub2 : ∀ t v, find Es t = some v → find (Xl ops vs (Yd S i) ++ (W ++ Es)) t = some v := by
      intro t v h
      cases h1 : find (Xl ops vs (Yd S i) ++ (W ++ Es)) t with
      | some u => rw [← hsub t u h1, h]
      | none =>
        rw [Gh, Gh, h] at h1
        cases h2 : find (Xl ops vs (Yd S i)) t <;> cases h3 : find W t <;> simp [h2, h3] at h1
    have hslot : Yf ops i = o.dst := by simp [Yf, ho]
    have hfin : ∀ (v : Value) (e' hb' : Heap) (a' : Act) (w' : World), Ve S i ((Yd S i).map vs) v e' → (∀ j, j ∈ hd.getD (rk (fun q => if q = i then true else done q)) [] → j < S.length ∧ (if j = i then true else done j) = true) →
        HR (rk (fun q => if q = i then true else done q)) ((hd.getD (rk (fun q => if q = i then true else done q)) []).map (fun j => if j = i then v else vs j)) hb' →
        Fits C.n C.D (Vv (Yf ops i) v (Xl ops vs (Yd S i) ++ (W ++ Es))) a' → Inv C.w0 C.M w' (hb' ++ (Hc ++ (e' ++ (Yt es (Kd S i) ++ Hx)))) →
        ∃ (vs : Nat → Value) (es : Nat → Heap) (hb : Heap) (Es : Env), Fits C.n C.D Es a' ∧ (∀ j d, j < S.length → (if j = i then true else done j) = true → Yf ops j = some d → find Es d = some (vs j)) ∧ (∀ t v, find W t = some v → find Es t = some v) ∧
          (∀ j, j < S.length → (if j = i then true else done j) = true → Ve S j ((Yd S j).map vs) (vs j) (es j)) ∧ (∀ j, j ∈ hd.getD (rk (fun q => if q = i then true else done q)) [] → j < S.length ∧ (if j = i then true else done j) = true) ∧
          HR (rk (fun q => if q = i then true else done q)) ((hd.getD (rk (fun q => if q = i then true else done q)) []).map vs) hb ∧ Inv C.w0 C.M w' (hb ++ (Hc ++ Zz es (Wa S (fun q => if q = i then true else done q)) (List.range S.length))) := by
      intro v e' hb' a' w' hrel hhd' hHR' hfit' hinv'
      refine ⟨fun j => if j = i then v else vs j, fun j => if j = i then e' else es j, hb', Vv (Yf ops i) v (Xl ops vs (Yd S i) ++ (W ++ Es)), hfit', fun j d hj hdj hs => ?_, fun t u h => ?_, fun j hj hdj => ?_, hhd', hHR', ?_⟩
      · show find _ d = some (if j = i then v else vs j)
        by_cases e : j = i
        · subst e; rw [hs, if_pos rfl]; simp [Vv, Wo]
        · rw [if_neg e]
          have hdj' : done j = true := by simpa [e] using hdj
          have h1 := hsub2 _ _ (hfacts j d hj hdj' hs)
          cases hsi : Yf ops i with
          | none => exact h1
          | some di =>
            simp only [Vv, Wo]
            rw [if_neg]
            · exact h1
            · rintro rfl
              exact e (Z01 hnd j i di (List.mem_range.2 hj) (List.mem_range.2 hil) hs hsi)
      · have h1 := hsub2 _ _ (hbase t u h)
        cases hsi : Yf ops i with
        | none => exact h1
        | some di =>
          simp only [Vv, Wo]
          rw [if_neg]
          · exact h1
          · rintro rfl
            exact (hW _ _ h).2 i hil hsi
      · have hmapdeps : ∀ q, q < S.length → (if q = i then true else done q) = true → (Yd S q).map (fun j => if j = i then v else vs j) = (Yd S q).map vs := by
          intro q hq hdq
          apply List.map_congr_left
          intro r hr
          have hrq := hg' q hq
          simp only [Bool.and_eq_true] at hrq
          have hrr := List.all_eq_true.1 hrq.1.1.1.1 r hr
          simp only [Bool.and_eq_true] at hrr
          have hne : r ≠ i := by
            rintro rfl
            by_cases e : q = r
            · subst e
              have := hdone q hrr.2
              rw [hdi] at this; cases this
            · have hdq' : done q = true := by simpa [e] using hdq
              have : done r = true := by
                obtain ⟨oq, hoq⟩ : ∃ oq, ops[q]? = some oq := ⟨ops[q]'(by omega), Array.getElem?_eq_getElem (by omega)⟩
                exact Ki hcl _ q r hrr.2 (fun o' ho' => hcl q o' ho' hdq')
              rw [hdi] at this; cases this
          rw [if_neg hne]
        rw [hmapdeps j hj hdj]
        by_cases e : j = i
        · subst e; simpa using hrel
        · simp only [if_neg e]
          exact hrels j hj (by simpa [e] using hdj)
      · exact hinv'.perm (List.Perm.append_left _ (List.Perm.append_left _ (hHx' e').symm))
    have hrk : Yg S i = false → rk (fun q => if q = i then true else done q) = rk done := by
      intro he
      show ((List.range S.length).filter _).length = _
      congr 1
      apply List.filter_congr
      intro j _
      by_cases e : j = i
      · subst e; simp [he]
      · simp [e]
    cases he : Yg S i with
    | false =>
      have hob := obs.get i (List.mem_range.2 hil)
      rw [he] at hob
      simp only [cond_false] at hob
      have hrkle : ∀ k, rdK rd i = some k → rk done ≤ k := by
        intro k hk
        obtain ⟨q, hq, heq, hrq, hreach⟩ := goodR.get hgr i k hk
        subst hrq
        have hdq : done q = false := by
          cases hdq : done q with
          | false => rfl
          | true => have := hcl' q hq hdq i hreach; rw [hdi] at this; cases this
        show ((List.range S.length).filter (fun i => Yg S i && done i)).length ≤ ((List.range q).filter (Yg S)).length
        have hsplit : List.range S.length = List.range q ++ List.range' q (S.length - q) := by
          rw [List.range_eq_range', List.range_eq_range']
          have := List.range'_append_1 (s := 0) (m := q) (n := S.length - q)
          rw [Nat.zero_add] at this
          rw [this]
          congr 1; omega
        have h2 : (List.range' q (S.length - q)).filter (fun j => Yg S j && done j) = [] := by
          rw [List.filter_eq_nil_iff]
          intro j hj
          have hjr := List.mem_range'_1.1 hj
          cases hej : Yg S j with
          | false => simp
          | true =>
            cases hdj : done j with
            | false => simp
            | true =>
              exfalso
              by_cases e : j = q
              · subst e; rw [hdq] at hdj; cases hdj
              · have hgj := hg' j (by omega)
                simp only [Bool.and_eq_true] at hgj
                have h3 := hgj.2
                rw [hej] at h3
                simp only [Bool.not_true, Bool.false_or, Bool.and_eq_true] at h3
                have h4 := List.all_eq_true.1 h3.1 q (List.mem_range.2 (by omega))
                rw [heq] at h4
                simp only [Bool.not_true, Bool.false_or] at h4
                have := hcl' j (by omega) hdj q h4
                rw [hdq] at this; cases this
        rw [hsplit, List.filter_append, h2, List.append_nil]
        have : ∀ l : List Nat, (l.filter (fun i => Yg S i && done i)).length ≤ (l.filter (Yg S)).length := by
          intro l
          induction l with
          | nil => simp
          | cons x l ih =>
            rw [List.filter_cons, List.filter_cons]
            cases h1 : Yg S x <;> cases h2 : done x <;> simp <;> omega
        exact this _
      obtain ⟨rest, hrest⟩ := hro.get i (rk done) _ hb hrkle hHR
      have hh := hob vs es Es (Hx ++ rest) hreld a w (hfit.weak hsub) (hinv.perm (by
        refine (List.Perm.append hrest (List.Perm.append_left Hc hHx)).trans ?_
        rw [List.append_assoc, List.append_assoc]
        refine List.Perm.append_left _ ?_
        refine List.perm_append_comm.trans ?_
        rw [List.append_assoc, List.append_assoc]))
      refine wpOpIn_mono ?_ (wpOp_Q hh)
      rintro a' w' ⟨v, e', hrel, hfit', hinv'⟩
      refine hfin v e' hb a' w' hrel ?_ ?_ hfit' (hinv'.perm ?_)
      · rw [hrk he]
        intro j hj
        obtain ⟨h1, h2⟩ := hhd j hj
        exact ⟨h1, by rw [h2]; simp⟩
      · rw [hrk he]
        have : (hd.getD (rk done) []).map (fun j => if j = i then v else vs j) = (hd.getD (rk done) []).map vs := by
          apply List.map_congr_left
          intro j hj
          rw [if_neg]
          rintro rfl
          have := (hhd j hj).2
          rw [hdi] at this; cases this
        rw [this]
        exact hHR
      · -- e' ++ ((R ++ Hc) ++ (ents ++ (Hx ++ rest)))  ~  hb ++ (Hc ++ (e' ++ (ents ++ Hx)))
        generalize Yt es (Kd S i) = A
        refine List.Perm.trans ?_ (List.Perm.append_right _ hrest.symm)
        generalize rdH rd i = R
        have e1 : e' ++ ((R ++ Hc) ++ (A ++ (Hx ++ rest))) = ((e' ++ (R ++ Hc)) ++ (A ++ Hx)) ++ rest := by simp only [List.append_assoc]
        have e2 : (R ++ rest) ++ (Hc ++ (e' ++ (A ++ Hx))) = R ++ (rest ++ (Hc ++ (e' ++ (A ++ Hx)))) := by simp only [List.append_assoc]
        rw [e1, e2]
        have p1 : List.Perm (e' ++ (R ++ Hc)) (R ++ (Hc ++ e')) := by
          refine List.perm_append_comm.trans ?_
          rw [List.append_assoc]
        refine (List.Perm.append_right rest (List.Perm.append_right (A ++ Hx) p1)).trans ?_
        have e3 : ((R ++ (Hc ++ e')) ++ (A ++ Hx)) ++ rest = R ++ ((Hc ++ (e' ++ (A ++ Hx))) ++ rest) := by simp only [List.append_assoc]
        rw [e3]
        exact List.Perm.append_left R List.perm_append_comm
    | true =>
      have hob := obs.get i (List.mem_range.2 hil)
      rw [he] at hob
      simp only [cond_true] at hob
      rw [he] at heffs
      simp only [Bool.not_true, Bool.false_or, Bool.and_eq_true] at heffs
      obtain ⟨hchain, hnext⟩ := heffs
      have hrki : rk done = Wy S i := by
        show ((List.range S.length).filter _).length = ((List.range i).filter (Yg S)).length
        have hsplit : List.range S.length = List.range i ++ List.range' i (S.length - i) := by
          rw [List.range_eq_range', List.range_eq_range']
          have := List.range'_append_1 (s := 0) (m := i) (n := S.length - i)
          rw [Nat.zero_add] at this
          rw [this]
          congr 1; omega
        rw [hsplit, List.filter_append]
        have h1 : (List.range i).filter (fun j => Yg S j && done j) = (List.range i).filter (Yg S) := by
          apply List.filter_congr
          intro j hj
          have := List.all_eq_true.1 hchain j hj
          simp only [Bool.or_eq_true, Bool.not_eq_true'] at this
          rcases this with h | h
          · simp [h]
          · simp [hdone j h]
        have h2 : (List.range' i (S.length - i)).filter (fun j => Yg S j && done j) = [] := by
          rw [List.filter_eq_nil_iff]
          intro j hj
          have hjr := List.mem_range'_1.1 hj
          cases hej : Yg S j with
          | false => simp
          | true =>
            cases hdj : done j with
            | false => simp
            | true =>
              exfalso
              by_cases e : j = i
              · subst e; rw [hdi] at hdj; cases hdj
              · have hgj := hg' j (by omega)
                simp only [Bool.and_eq_true] at hgj
                have h3 := hgj.2
                rw [hej] at h3
                simp only [Bool.not_true, Bool.false_or, Bool.and_eq_true] at h3
                have h4 := List.all_eq_true.1 h3.1 i (List.mem_range.2 (by omega))
                rw [he] at h4
                simp only [Bool.not_true, Bool.false_or] at h4
                have : done i = true := Ki hcl _ j i h4 (fun o' ho' => hcl j o' ho' hdj)
                rw [hdi] at this; cases this
        rw [h1, h2, List.append_nil]
      have hrki' : rk (fun q => if q = i then true else done q) = Wy S i + 1 := by
        rw [← hrki]
        show ((List.range S.length).filter _).length = ((List.range S.length).filter _).length + 1
        have : ∀ l : List Nat, l.Nodup → i ∈ l → (l.filter (fun j => Yg S j && (if j = i then true else done j))).length = (l.filter (fun j => Yg S j && done j)).length + 1 := by
          intro l
          induction l with
          | nil => intro _ h; cases h
          | cons j l ih =>
            intro hn hm
            simp only [List.nodup_cons] at hn
            by_cases e : j = i
            · subst e
              have hc : l.filter (fun q => Yg S q && (if q = j then true else done q)) = l.filter (fun q => Yg S q && done q) := by
                apply List.filter_congr
                intro q hq
                have : q ≠ j := by rintro rfl; exact hn.1 hq
                simp [this]
              rw [List.filter_cons_of_pos (by simp [he]), List.filter_cons_of_neg (by simp [hdi]), hc, List.length_cons]
            · have hm' : i ∈ l := by rcases List.mem_cons.1 hm with h | h; (exact absurd h.symm e); exact h
              have := ih hn.2 hm'
              simp only [List.filter_cons, e, if_false]
              split
              · simp only [List.length_cons]; omega
              · exact this
        exact this _ List.nodup_range (List.mem_range.2 hil)
      rw [hrki] at hHR
      have hh := hob vs es Es Hx hb hreld hHR a w (hfit.weak hsub) (hinv.perm (List.Perm.append_left _ (List.Perm.append_left _ hHx)))
      refine wpOpIn_mono ?_ (wpOp_Q hh)
      rintro a' w' ⟨v, hb', e', hrel, hHR', hfit', hinv'⟩
      have hrest : Kd S i = Yd S i := by
        have h0 : Vk S i = [] := by
          rw [he] at heate; simpa using heate
        unfold Kd; rw [h0]; simp
      refine hfin v e' hb' a' w' hrel ?_ ?_ hfit' (by rw [hrest]; exact hinv')
      · rw [hrki']
        intro j hj
        have := List.all_eq_true.1 hnext j hj
        simp only [Bool.or_eq_true, Bool.and_eq_true] at this
        rcases this with h | ⟨h1, h2⟩
        · have := Nat.eq_of_beq_eq_true h; subst this; exact ⟨hil, by simp⟩
        · exact ⟨by simpa using h1, by rw [hdone j h2]; simp⟩
      · rw [hrki']
        have : (fun j => _root_.cond (Nat.beq j i) v (vs j)) = (fun j => if j = i then v else vs j) := by
          funext j
          by_cases e : j = i
          · subst e
            have : Nat.beq j j = true := by simp
            rw [this, if_pos rfl]; rfl
          · rw [if_neg e]
            have : Nat.beq j i = false := by
              cases hb : Nat.beq j i
              · rfl
              · exact absurd (Nat.eq_of_beq_eq_true hb) e
            rw [this]; rfl
        rw [← this]
        exact hHR'
  · rintro done a w hall ⟨vs, es, hb, Es, hfit, hfacts, hbase, hrels, hhd, hHR, hinv⟩
    have hrk : rk done = ((List.range S.length).filter (Yg S)).length := by
      show ((List.range S.length).filter _).length = _
      congr 1
      apply List.filter_congr
      intro j hj
      simp [hall j (List.mem_range.1 hj)]
    rw [hrk] at hHR
    refine k vs es hb (Z0k fun j hj => hrels j (List.mem_range.1 hj) (hall j (List.mem_range.1 hj))) hHR a w (hfit.weak fun t v h => ?_) ?_
    · rw [Gh] at h
      cases h1 : find (Xl ops vs (List.range S.length)) t with
      | some u =>
        rw [h1] at h; simp at h; subst h
        obtain ⟨j, hj, hs, rfl⟩ := Li (Z0g h1)
        have hj' := List.mem_range.1 hj
        exact hfacts j t hj' (hall j hj') hs
      | none => rw [h1] at h; exact hbase t v (by simpa using h)
    · have h1 : Zz es (Wa S done) (List.range S.length) = Yt es ((List.range S.length).filter fun j => !Vq S j) := by
        have key : ∀ l : List Nat, (∀ j, j ∈ l → j < S.length) → Zz es (Wa S done) l = Yt es (l.filter fun j => !Vq S j) := by
          intro l
          induction l with
          | nil => intro _; rfl
          | cons j l ih =>
            intro h
            have ih := ih fun q hq => h q (.tail _ hq)
            have hj : Wa S done j = !Vq S j := by
              unfold Wa Kr Vq
              rw [hall j (h j (.head _)), Bool.true_and]
              congr 1
              rw [Bool.eq_iff_iff]
              simp only [List.any_eq_true, Bool.and_eq_true]
              constructor
              · rintro ⟨q, hq, _, h2⟩; exact ⟨q, hq, h2⟩
              · rintro ⟨q, hq, h2⟩; exact ⟨q, hq, hall q (List.mem_range.1 hq), h2⟩
            unfold Zz at ih ⊢
            rw [List.flatMap_cons, ih, hj, List.filter_cons]
            cases (!Vq S j) <;> simp [Yt]
        exact key _ fun j hj => List.mem_range.1 hj
      rw [← h1]
      exact hinv
  · have hrk0 : rk (fun _ => false) = 0 := by
      show ((List.range S.length).filter _).length = 0
      simp
    refine ⟨fun _ => undef, fun _ => [], hb0, E, hf, fun j d _ h => by simp at h, fun t v h => (hW t v h).1, fun j _ h => by simp at h, ?_, ?_, ?_⟩
    · rw [hrk0, hd0']; intro j hj; cases hj
    · rw [hrk0, hd0']; exact h0
    · have : Zz (fun _ => []) (Wa S fun _ => false) (List.range S.length) = [] := by simp [Zz]
      rw [this, List.append_nil]
      exact (hi.pick hH).ofHeap rfl rfl rfl rfl
theorem Z5e {ρ : Option Nat} {P : Program} {Q' : Exit → Act → World → Prop} {i : Nat} {K K' : Act → World → Prop} {a : Act} {w : World} (hq : ∀ e a w, e ≠ .normal → Q' e a w → Q e a w) (hk : ∀ a w, K' a w → K a w)
    (h : wpOpIn (FW ρ) 0 P ops Q' i K' a w) : wpOpIn (FW ρ) 0 P ops Q i K a w := by
  refine wpOpIn_mono hk ?_
  unfold wpOpIn at h ⊢
  cases ho : ops[i]? with
  | none => rw [ho] at h; exact h
  | some o =>
    rw [ho] at h
    simp only at h ⊢
    split
    · rename_i hwt
      simp only [hwt, if_true] at h
      refine ⟨h.1, ?_⟩
      have h2 := h.2
      generalize (o.semAt (FW ρ).round a.eval).run P w = r at h2 ⊢
      cases r with
      | ok x w' =>
        cases x with
        | enter f args => exact ⟨h2.1, CallsIn.mono h2.2 (fun e w' hh => by cases e with
          | returned v => exact hh
          | panicked c => exact hq _ _ _ (by simp) hh
          | outgrown => obtain ⟨a0, w0, h0⟩ := hh; exact ⟨a0, w0, hq _ _ _ (by simp) h0⟩)⟩
        | row _ => exact h2
        | round l f tmps assign body => exact ⟨h2.1, RoundIn.mono h2.2 (fun e w' hh => by cases e with
          | returned v => exact hh
          | panicked c => exact hq _ _ _ (by simp) hh
          | outgrown => obtain ⟨a0, w0, h0⟩ := hh; exact ⟨a0, w0, hq _ _ _ (by simp) h0⟩)⟩
        | _ => exact h2
      | halt x w' => cases x <;> first | exact h2 | exact hq _ _ _ (by simp) h2
    · rename_i hwt
      simp only [hwt, if_false, Bool.false_eq_true] at h
      exact h
theorem Ga {ρ : Option Nat} {P : Program} {Q' : Exit → Act → World → Prop} {l2 : List Nat} (hq : ∀ e a w, e ≠ .normal → Q' e a w → Q e a w) (hn : ∀ a w, Q' .normal a w → wpOpsIn (FW ρ) 0 P ops Q l2 a w) : ∀ (l1 : List Nat) (a : Act) (w : World), wpOpsIn (FW ρ) 0 P ops Q' l1 a w → wpOpsIn (FW ρ) 0 P ops Q (l1 ++ l2) a w
 | [], a, w, h => hn a w h
 | i :: l1, a, w, h => by
  rw [List.cons_append, wpOpsIn_cons]
  rw [wpOpsIn_cons] at h
  exact Z5e hq (fun a w => Ga hq hn l1 a w) h
theorem ObE.to2 {S : List Sp} {HR : Nat → List Value → Heap → Prop} {hd : List (List Nat)} {W : Env} {Hc : Heap} {i : Nat} (h : ObE C ops Q S HR hd W Hc i) : ObE2 C ops Q S HR hd W Hc i := by
 intro vs es Es Hx hb hr hh a w hf hi
 refine Ga (l2 := []) (fun e a w hne hq => ?_) (fun a w hq => ?_) [i] a w (h vs es Es Hx hb hr hh a w hf hi)
 · cases e <;> first | exact absurd rfl hne | exact hq
 ·
  obtain ⟨v, hb', h1, h2, h3, h4⟩ := hq
  exact ⟨v, hb', [], h1, h2, h3, h4⟩
theorem Z2z {S : List Sp} {HR : Nat → List Value → Heap → Prop} {hd : List (List Nat)} {W : Env} {Hc : Heap} : ∀ {l : List Nat}, ObsG C ops Q S HR hd W Hc l → ObsG3 C ops Q S HR hd [] W Hc l
 | [], _ => trivial
 | i :: _, ⟨h1, h2⟩ => ⟨by
  cases he : Yg S i with
  | true => rw [he] at h1; exact ObE.to2 h1
  | false => rw [he] at h1; exact h1, Z2z h2⟩
theorem T.drawG {id : Nat} (S : List Sp) (HR : Nat → List Value → Heap → Prop) (hd : List (List Nat)) (hb0 Hc : Heap)
    (hm : C.P.follows .mixedOrders = true) (hb : Wq ops = true) (ht : Uk ops S.length = true) (hgood : Kg ops S hd = true) (hms : Nat.ble S.length ops.size = true)
    (hn : Vu (Xx ops (List.range S.length)) = true) (h0 : HR 0 [] hb0) (hH : Pick (hb0 ++ Hc) H)
    (obs : ObsG C ops Q S HR hd (wo (Xx ops (List.range S.length)) E) Hc (List.range S.length))
    (k : ∀ (vs : Nat → Value) (es : Nat → Heap) (hb : Heap), Vc S vs es (List.range S.length) → HR ((List.range S.length).filter (Yg S)).length ((hd.getD ((List.range S.length).filter (Yg S)).length []).map vs) hb →
      TO C ops Q (List.range' S.length (ops.size - S.length)) (Xl ops vs (List.range S.length) ++ wo (Xx ops (List.range S.length)) E) (hb ++ (Hc ++ Yt es ((List.range S.length).filter fun j => !Vq S j)))) :
    T C (.region id ops true) Q E H := Z2k S HR hd [] hb0 Hc hm hb ht hgood hms hn rfl trivial h0 hH (Z2z obs) k
theorem Z2s {id : Nat} (S : List Sp) (sl : List Nat) (m : Nat) (HR : Nat → List Value → Heap → Prop) (hd : List (List Nat)) (hb0 Hc : Heap)
    (hm : C.P.follows .mixedOrders = true) (hsm : S.length = m) (hsl : Xx ops (List.range m) = sl) (hb : Wq ops = true) (ht : Uk ops m = true) (hgood : Kg ops S hd = true) (hms : Nat.ble m ops.size = true)
    (hn : Vu sl = true) (h0 : HR 0 [] hb0) (hH : Pick (hb0 ++ Hc) H)
    (obs : ObsG C ops Q S HR hd (wo sl E) Hc (List.range m))
    (k : ∀ (vs : Nat → Value) (es : Nat → Heap) (hb : Heap), Vc S vs es (List.range m) → HR ((List.range m).filter (Yg S)).length ((hd.getD ((List.range m).filter (Yg S)).length []).map vs) hb →
      TO C ops Q (List.range' m (ops.size - m)) (Xl ops vs (List.range m) ++ wo sl E) (hb ++ (Hc ++ Yt es ((List.range m).filter fun j => !Vq S j)))) :
    T C (.region id ops true) Q E H := by
  subst hsm; subst hsl
  exact T.drawG S HR hd hb0 Hc hm hb ht hgood hms hn h0 hH obs k
def HRk (l : List Heap) : Nat → List Value → Heap → Prop := fun k _ hb => hb = l.getD k []
theorem Zv {l : List Nat} {D D' : Env} {W : Env} (h : D' = D) (k : TO C ops Q l (D ++ W) H) : TO C ops Q l (D' ++ W) H := by rw [h]; exact k
theorem Kl {l : List Nat} {H' : Heap} (h : H' = H) (k : TO C ops Q l E H) : TO C ops Q l E H' := by rw [h]; exact k
theorem Yc {S : List Sp} {W Es B B' : Env} {Hc Hx : Heap} {i d : Nat} {v : Value} {e' De : Heap} {vl : List Value} {H' : Heap} (hs : Yf ops i = some d) (hr : Ve S i vl v e') (hH : Pick (e' ++ (Hc ++ (De ++ Hx))) H') (hB : B = B') :
    X C (fun e a w => match e with
      | .normal => ∃ v e', Ve S i vl v e' ∧ Fits C.n C.D (Vv (Yf ops i) v (B ++ (W ++ Es))) a ∧ Inv C.w0 C.M w (e' ++ (Hc ++ (De ++ Hx)))
      | e => Q e a w) .normal ((d, v) :: (B' ++ (W ++ Es))) H' := by
  subst hB
  exact fun _ _ hf hi => ⟨v, e', hr, by rw [hs]; exact hf, hi.pick hH⟩
end
end Go.Acq
namespace Go.Acq
open Go Go.RowKit
theorem Inv.self {w0 w : World} {M M' : List Nat} {H Hm : Heap} (h : Inv w0 M w H) (hp : Pick Hm H) (hM : Hm.filterMap (·.1) = M') : Inv w M' w Hm := by
 have g := h.pick hp
 refine ⟨rfl, rfl, rfl, Nat.le_refl _, fun _ _ _ => rfl, g.own, fun b o hm => ?_, g.apart⟩
 subst hM
 first | exact Or.inr (Kb hm) | exact fun _ => Kb hm | exact Or.inl (Kb hm)
theorem Take.gone {p : Option Nat × Obj} {H R S Hm : Heap} (h : Take p H R) (g : List.Perm R (Hm ++ S)) : List.Perm H ((p :: Hm) ++ S) :=
 h.trans (List.Perm.cons p g)
end Go.Acq
namespace Go.Acq
open Go Go.RowKit
section control
variable {C : Cx} {Q : Exit → Act → World → Prop} {E E' : Env} {H H' : Heap} {c x y : Code}
theorem Z3h {t : Nat} {v : Value} {L E : Env} (h : find E t = some v) (h2 : AllF L E) : AllF ((t, v) :: L) E := ⟨h, h2⟩
theorem Js {E : Env} : AllF [] E := trivial
theorem Fits.all {n : Nat} {D : List Deferred} {L E : Env} {a : Act} (h : Fits n D E a) (hL : AllF L E) : Fits n D L a := h.weak hL.sub
theorem T.weakE (h : T C c Q E' H') (hE : AllF E' E) (hH : Pick H' H) : T C c Q E H := h.weak hE.sub hH
theorem Jk {α : Type} (φ : α → Prop) (L : α → Env) (Hs : α → Heap) (μ : α → Nat) (s0 : α) (h0 : φ s0) (hE : AllF (L s0) E) (hH : Pick (Hs s0) H)
    (round : ∀ s, φ s → T C c (Exit.then (fun a w => ∃ s', φ s' ∧ μ s' < μ s ∧ Fits C.n C.D (L s') a ∧ Inv C.w0 C.M w (Hs s')) Q) (L s) (Hs s)) : T C (.loop c) Q E H := by
  refine T.weakE (E' := L s0) (H' := Hs s0) ?_ hE hH
  intro a w hf hi b k cs hro hb hr
  have key : ∀ j s a w, μ s = j → φ s → Fits C.n C.D (L s) a → Inv C.w0 C.M w (Hs s) →
      ∃ e a' w', Q e a' w' ∧ ArrivesIn (Machine.fenced C.P (FW C.ρ)) C.P (lone (b.atR a (.code c :: .inLoop c :: k)) cs w) b k cs e a' w' := by
    intro j
    induction j using Nat.strongRecOn with
    | _ j ih =>
      intro s a w hj hφ hfit hinv
      obtain ⟨e, a₁, w₁, hq, harr⟩ := round s hφ a w hfit hinv b (.inLoop c :: k) cs hro hb hr
      cases e with
      | normal =>
        obtain ⟨s', hφ', hlt, hfit', hinv'⟩ := hq
        obtain ⟨e₂, a₂, w₂, hq₂, harr₂⟩ := ih (μ s') (hj ▸ hlt) s' a₁ w₁ rfl hφ' hfit' hinv'
        exact ⟨e₂, a₂, w₂, hq₂, .of_steps (StepsIn.trans harr (.one (fenced_calm hb hr rfl) stepR_inLoop)) harr₂⟩
      | exit id => exact ⟨_, a₁, w₁, hq, .pass (x := .inLoop c) rfl (fun _ _ => .inl (by simp)) harr⟩
      | goto l => exact ⟨_, a₁, w₁, hq, .pass (x := .inLoop c) rfl (fun _ _ => .inl (by simp)) harr⟩
      | ret => exact ⟨_, a₁, w₁, hq, .pass (x := .inLoop c) rfl (fun _ _ => .inl (by simp)) harr⟩
      | panic ch => exact ⟨_, a₁, w₁, hq, .pass (x := .inLoop c) rfl (fun _ _ => .inl (by simp)) harr⟩
      | outgrown => exact ⟨_, a₁, w₁, hq, .pass (x := .inLoop c) rfl (fun _ _ => .inl (by simp)) harr⟩
  obtain ⟨e, a', w', hq, harr⟩ := key _ s0 a w rfl h0 hf hi
  exact ⟨e, a', w', hq, .of_steps (.one (fenced_calm hb hr rfl) stepR_loop) harr⟩
end control
structure RS {α : Type} (w : World) (M : List Nat) (f : α → List Value) (s : Nat) (base : Option Addr) (n c : Nat) (xs : List α) : Prop where
  ro : RO w f s base n xs
  far : ∀ a, base = some a → 0 < n → a.block ∉ M
  cap : n ≤ c
structure HB (w : World) (M : List Nat) (b : Nat) (cs : List Value) : Prop where
  has : Has w b cs
  far : b ∉ M
section
variable {α : Type} {w w0 : World} {M M' : List Nat} {f : α → List Value} {s n c : Nat} {base : Option Addr} {xs : List α} {H Hm R : Heap}
theorem RS.len (h : RS w M f s base n c xs) : xs.length = n := h.ro.len
theorem RS.nil (w : World) (M : List Nat) (hf : ∀ x, (f x).length = s) : RS w M f s none 0 0 ([] : List α) := ⟨Z1h w hf, (fun _ e => by cases e), Nat.le_refl _⟩
theorem RO.monoM (h : RO w0 f s base n xs) (hfar : ∀ a, base = some a → 0 < n → a.block ∉ M) (hi : Inv w0 M w H) : RO w f s base n xs :=
 ⟨h.len, h.nil, h.wide, fun o q ho hq x hx => by
  have h1 := h.cell o q ho hq x hx
  have hcl : q < (f x).length := by rw [h.wide]; exact hq
  have hn : 0 < n := by have := h.len; omega
  cases base with
  | none => have := h.nil rfl; omega
  | some a =>
   have hb : (ea (some a) (o * s + q)).block = a.block := by
    simp only [ea, Option.getD_some, Addr.add]; split <;> rfl
   rw [List.getElem?_eq_getElem hcl] at h1 ⊢
   exact hi.cell_old h1 (by rw [hb]; exact hfar a rfl hn)⟩
theorem RS.mono (h : RS w0 M f s base n c xs) (hi : Inv w0 M w H) : RS w [] f s base n c xs := ⟨h.ro.monoM h.far hi, fun _ _ _ => by simp, h.cap⟩
theorem RO.block_lt (h : RO w f s base n xs) (hs : 0 < s) (hn : 0 < n) {a : Addr} (ha : base = some a) : a.block < w.heap.size := by
 subst ha
 have h0 : 0 < xs.length := by rw [h.len]; exact hn
 have h1 := h.cell 0 0 h0 hs xs[0] (List.getElem?_eq_getElem h0)
 have hcl : 0 < (f xs[0]).length := by rw [h.wide]; exact hs
 rw [List.getElem?_eq_getElem hcl] at h1
 simp only [Nat.zero_mul, Nat.add_zero, ea, Option.getD_some, Addr.add, if_true] at h1
 unfold World.cell? at h1
 split at h1
 · rename_i he; exact (Array.getElem?_eq_some_iff.1 he).1
 · cases h1
theorem RS.monoM (h : RS w0 M f s base n c xs) (hs : 0 < s) (hi : Inv w0 M w H) (hp : List.Perm H (Hm ++ R)) (hM : Hm.filterMap (·.1) = M') : RS w M' f s base n c xs :=
 ⟨h.ro.monoM h.far hi, fun a ha hn hm => by
  have hlt := h.ro.block_lt hs hn ha
  subst hM
  obtain ⟨o, ho⟩ := Ko hm
  rcases hi.low a.block o ((List.Perm.mem_iff hp).2 (List.mem_append_left _ ho)) with hl | hl
  · omega
  · exact h.far a ha hn hl, h.cap⟩
theorem Inv.rs (hi : Inv w0 M w H) (hf : ∀ x, (f x).length = s) {ob : Option Nat} {T' : TypeId} {fr : Nat × Nat} {j : List Value} (hm : (ob, Obj.cells (arr f xs j).toArray T' fr) ∈ H) (hn : xs.length = n) (hc : n ≤ c) (h0 : ob = none → c = 0) :
    RS w [] f s (sb ob) n c xs := ⟨hi.roO hf hm hn (fun e => by have := h0 e; omega), fun _ _ _ => by simp, hc⟩
theorem Inv.rsM (hi : Inv w0 M w H) (hf : ∀ x, (f x).length = s) {ob : Option Nat} {T' : TypeId} {fr : Nat × Nat} {j : List Value} (hp : List.Perm H (Hm ++ R)) (hM : Hm.filterMap (·.1) = M')
    (hm : (ob, Obj.cells (arr f xs j).toArray T' fr) ∈ R) (hn : xs.length = n) (hc : n ≤ c) (h0 : ob = none → c = 0) : RS w M' f s (sb ob) n c xs :=
  ⟨hi.roO hf ((List.Perm.mem_iff hp).2 (List.mem_append_right _ hm)) hn (fun e => by have := h0 e; omega), fun a ha _ hmM => by
    cases ob with
    | none => cases ha
    | some b =>
      simp only [sb, Option.map_some, Option.some.injEq] at ha
      subst ha
      subst hM
      have ha := (hi.perm hp).apart
      rw [List.filterMap_append] at ha
      exact (List.nodup_append.1 ha).2.2 _ hmM _ (Kb hm) rfl, hc⟩
theorem HB.mono {b : Nat} {cs : List Value} (h : HB w0 M b cs) (hi : Inv w0 M w H) : HB w [] b cs := ⟨fun j v hj => hi.cell_old (h.has j v hj) h.far, by simp⟩
theorem Inv.hb (hi : Inv w0 M w H) {b : Nat} {cs : List Value} {T' : TypeId} {fr : Nat × Nat} (hm : (some b, Obj.cells cs.toArray T' fr) ∈ H) : HB w [] b cs := ⟨hi.has hm, by simp⟩
end
theorem Up {b c : Nat} : (some b : Option Nat) = none → c = 0 := fun e => by cases e
theorem Vg (c s : Nat) : ([] : List Value).length = (c - c) * s := by simp
theorem Kk {α : Type} {xs ys : List α} {n m : Nat} (h : xs.length = n) (g : ys.length = m) : (xs ++ ys).length = n + m := by rw [List.length_append, h, g]
theorem Wv {i : Int} {n : Nat} (g : inb i n) : i.toNat < n := by obtain ⟨g1, g2⟩ := g; omega
section rules
variable {C : Cx} {ops : Array Oper} {Q : Exit → Act → World → Prop} {l : List Nat} {E : Env} {H R : Heap} {i d : Nat} {ty : TypeId} {pos : String} {af : Array Edge} {g : Option (Nat × Bool)}
theorem Xv {α : Type} {t : TypeId} {at' : Array TypeId} {x : Operand} {e : TypeId} {base : Option Addr} {n c : Nat} {xs : List α} (hn : xs.length = n)
    (q0_ : ops[i]? = some ⟨some d, .call ⟨.builtin .len, #[x], at'⟩, ty, pos, af, g⟩ ∧ Zg ops E g = true ∧ Nat.ble (d + 1) C.n = true ∧ at'[0]? = some t ∧ ev E x = some (.slice base n c)) (ht : Zr C.P t = some e) (kk : TO C ops Q l ((d, .int .i64 (xs.length : Int)) :: E) H) : TO C ops Q (i :: l) E H := have ⟨ho, hg, hd, hat, hx⟩ := q0_;
  TO.len ho hg hd hat hx ht (by rw [← hn]; exact kk)
theorem Xz {α : Type} {f : α → List Value} {M : List Nat} {w : World} {xs : List α} {t e : TypeId} {x y : Operand} {base : Option Addr} {n c s : Nat} {k : IntKind} {p : Int} (hr : RS w M f s base n c xs) (hp : inb p xs.length)
    (q0_ : ops[i]? = some ⟨some d, .indexAddr t x y, ty, pos, af, g⟩ ∧ Zg ops E g = true ∧ Nat.ble (d + 1) C.n = true ∧ ev E x = some (.slice base n c) ∧ ev E y = some (.int k p)) (ht : Zr C.P t = some e) (hs : Zq C.P e = some s)
    (kk : TO C ops Q l ((d, .pointer (some (ea base (p.toNat * s)))) :: E) H) : TO C ops Q (i :: l) E H := have ⟨ho, hg, hd, hx, hy⟩ := q0_;
  Z03 ho hg hd hx hy ht hs hr.ro.nil hp.1 (by have := hp.2; rw [hr.len] at this; exact this) kk
theorem Ul {α : Type} {xs : List α} {t e : TypeId} {x y : Operand} {b n c : Nat} {k : IntKind} {p : Int} (hn : xs.length = n) (hp : inb p xs.length)
    (q0_ : ops[i]? = some ⟨some d, .indexAddr t x y, ty, pos, af, g⟩ ∧ Zg ops E g = true ∧ Nat.ble (d + 1) C.n = true ∧ ev E x = some (.slice (some ⟨b, 0, none⟩) n c) ∧ ev E y = some (.int k p)) (ht : Zr C.P t = some e) (hs : Zq C.P e = some 1)
    (kk : TO C ops Q l ((d, .pointer (some ⟨b, p.toNat, none⟩)) :: E) H) : TO C ops Q (i :: l) E H := have ⟨ho, hg, hd, hx, hy⟩ := q0_;
  Z4q ho hg hd hx hy ht hs hp.1 (by have := hp.2; rw [hn] at this; exact this) kk
theorem Z42 {P : Program} {s : TypeId} {f o : Nat} {w : World} (h : Xd P s f = some o) (a : Addr) : (Instr.fieldAt s (.pointer (some a)) f).run P w = .ok (.pointer (some (a.add o))) w := by
 unfold Xd at h
 split at h
 ·
  rename_i fs hu
  cases hg : fs[f]? with
  | none => simp [hg] at h
  | some g =>
   cases hi : P.info? g.type with
   | none => simp [hg, hi] at h
   | some i =>
    simp only [hg, hi, Option.bind_some] at h
    by_cases hz : i.size = 0
    · simp [hz] at h
    ·
     simp [hz] at h
     subst h
     simp [Instr.fieldAt, run_underlying hu, hg, Instr.sureAddr, fieldPlace, sizeOf, typeInfo, hi, hz]
 · cases h
theorem TO.faR {s : TypeId} {x : Operand} {f o n : Nat} {base : Option Addr} (q0_ : ops[i]? = some ⟨some d, .fieldAddr s x f, ty, pos, af, g⟩ ∧ Zg ops E g = true ∧ Nat.ble (d + 1) C.n = true ∧ ev E x = some (.pointer (some (ea base n)))) (hT : Xd C.P s f = some o) (kk : TO C ops Q l ((d, .pointer (some (ea base (n + o)))) :: E) H) : TO C ops Q (i :: l) E H := have ⟨ho, hg, hd, hx⟩ := q0_;
  TO.val ho hg hd (by simp) (fun a w hf _ => by simp [execOp, hf.ev hx, Z42 hT, Rm]) kk
theorem Ue {t : TypeId} {x : Operand} {base : Option Addr} {n c : Nat} {k : IntKind} {p : Int} {xs : List Int} (hr : RS C.w0 C.M (intC k) 1 base n c xs) (hp : inb p xs.length) (q0_ : ops[i]? = some ⟨some d, .load t x, ty, pos, af, g⟩ ∧ Zg ops E g = true ∧ Nat.ble (d + 1) C.n = true ∧ ev E x = some (.pointer (some (ea base (p.toNat * 1))))) (hT : Yr C.P t = true)
    (kk : TO C ops Q l ((d, .int k (xs.getD p.toNat 0)) :: E) H) : TO C ops Q (i :: l) E H := have ⟨ho, hg, hd, hx⟩ := q0_;
  TO.load ho hg hd hx hT (fun w hi => by
    have := (hr.ro.monoM hr.far hi).at 0 (o := p.toNat) (c := 0) (Wv hp) (by omega)
    simpa using this) kk
theorem Kj {α : Type} {f : α → List Value} {s : Nat} {t : TypeId} {x : Operand} {base : Option Addr} {n c : Nat} {p : Int} {xs : List α} {cs : List Value} (dflt : α) (hr : RS C.w0 C.M f s base n c xs) (hp : inb p xs.length) (q0_ : ops[i]? = some ⟨some d, .load t x, ty, pos, af, g⟩ ∧ Zg ops E g = true ∧ Nat.ble (d + 1) C.n = true ∧ ev E x = some (.pointer (some (ea base (p.toNat * s)))) ∧ f (xs.getD p.toNat dflt) = cs) (hT : Xu C.P t s = true)
    (kk : TO C ops Q l ((d, .agg cs.toArray) :: E) H) : TO C ops Q (i :: l) E H := have ⟨ho, hg, hd, hx, hcs⟩ := q0_;
  Rd ho hg hd hx hT (by rw [← hcs]; exact hr.ro.wide _) (fun w hi q v hq => by
    subst hcs
    have hqs : q < s := by rw [← hr.ro.wide (xs.getD p.toNat dflt)]; exact (List.getElem?_eq_some_iff.1 hq).1
    have := (hr.ro.monoM hr.far hi).at dflt (o := p.toNat) (c := q) (Wv hp) hqs
    rw [Rm]
    exact this.trans hq) kk
theorem Z14 {α : Type} {f : α → List Value} {s : Nat} {t : TypeId} {x : Operand} {base : Option Addr} {n c q : Nat} {p : Int} {xs : List α} {v : Value} (dflt : α) (hr : RS C.w0 C.M f s base n c xs) (hp : inb p xs.length) (q0_ : ops[i]? = some ⟨some d, .load t x, ty, pos, af, g⟩ ∧ Zg ops E g = true ∧ Nat.ble (d + 1) C.n = true ∧ ev E x = some (.pointer (some (ea base (p.toNat * s + q)))) ∧ (f (xs.getD p.toNat dflt))[q]? = some v) (hT : Yr C.P t = true)
    (kk : TO C ops Q l ((d, v) :: E) H) : TO C ops Q (i :: l) E H := have ⟨ho, hg, hd, hx, hv⟩ := q0_;
  TO.load ho hg hd hx hT (fun w hi => by
    have hqs : q < s := by rw [← hr.ro.wide (xs.getD p.toNat dflt)]; exact (List.getElem?_eq_some_iff.1 hv).1
    have := (hr.ro.monoM hr.far hi).at dflt (o := p.toNat) (c := q) (Wv hp) hqs
    exact this.trans hv) kk
theorem Ng {t T' : TypeId} {x : Operand} {b : Nat} {k : IntKind} {p : Int} {xs : List Int} {j : List Value} {fr : Nat × Nat} (hp : inb p xs.length) (q0_ : ops[i]? = some ⟨some d, .load t x, ty, pos, af, g⟩ ∧ Zg ops E g = true ∧ Nat.ble (d + 1) C.n = true ∧ ev E x = some (.pointer (some ⟨b, p.toNat, none⟩))) (hT : Yr C.P t = true) (hm : (some b, Obj.cells (arr (intC k) xs j).toArray T' fr) ∈ H)
    (kk : TO C ops Q l ((d, .int k (xs.getD p.toNat 0)) :: E) H) : TO C ops Q (i :: l) E H := have ⟨ho, hg, hd, hx⟩ := q0_; TO.ldI ho hg hd hx hT hm (Wv hp) kk
theorem Z1t {t T' : TypeId} {x y : Operand} {b : Nat} {k : IntKind} {p v : Int} {xs : List Int} {j : List Value} (hp : inb p xs.length) (q0_ : ops[i]? = some ⟨none, .store t x y, ty, pos, af, g⟩ ∧ Zg ops E g = true ∧ ev E x = some (.pointer (some ⟨b, p.toNat, none⟩)) ∧ ev E y = some (.int k v)) (ht : Take (some b, .cells (arr (intC k) xs j).toArray T' (0, 0)) H R) (hs : Zq C.P t = some 1)
    (kk : TO C ops Q l E ((some b, .cells (arr (intC k) (xs.set p.toNat v) j).toArray T' (0, 0)) :: R)) : TO C ops Q (i :: l) E H := have ⟨ho, hg, hx, hy⟩ := q0_; TO.stI ho hg hx hy ht hs (Wv hp) kk
where hf_set_len {α : Type} {f : α → List Value} {s : Nat} {x : α} {q : Nat} {v : Value} (hf : ∀ x, (f x).length = s) : ((f x).set q v).length = s := by rw [List.length_set, hf]
theorem Xr {t t2 : TypeId} {x y : Operand} {p q : Int} (h : i64ok (p + q)) (q0_ : ops[i]? = some ⟨some d, .binOp .add t x y t2, ty, pos, af, g⟩ ∧ Zg ops E g = true ∧ Nat.ble (d + 1) C.n = true ∧ ev E x = some (.int .i64 p) ∧ ev E y = some (.int .i64 q))
    (kk : TO C ops Q l ((d, .int .i64 (p + q)) :: E) H) : TO C ops Q (i :: l) E H := have ⟨ho, hg, hd, hx, hy⟩ := q0_; TO.add ho hg hd hx hy h.1 h.2 kk
theorem Nh {t t2 : TypeId} {x y : Operand} {p q : Int} (h : i64ok (p - q)) (q0_ : ops[i]? = some ⟨some d, .binOp .sub t x y t2, ty, pos, af, g⟩ ∧ Zg ops E g = true ∧ Nat.ble (d + 1) C.n = true ∧ ev E x = some (.int .i64 p) ∧ ev E y = some (.int .i64 q))
    (kk : TO C ops Q l ((d, .int .i64 (p - q)) :: E) H) : TO C ops Q (i :: l) E H := have ⟨ho, hg, hd, hx, hy⟩ := q0_; TO.sub ho hg hd hx hy h.1 h.2 kk
theorem TO.negG {t : TypeId} {x : Operand} {p : Int} (h : i64ok (-p)) (q0_ : ops[i]? = some ⟨some d, .unOp .neg t x, ty, pos, af, g⟩ ∧ Zg ops E g = true ∧ Nat.ble (d + 1) C.n = true ∧ ev E x = some (.int .i64 p)) (kk : TO C ops Q l ((d, .int .i64 (-p)) :: E) H) : TO C ops Q (i :: l) E H := have ⟨ho, hg, hd, hx⟩ := q0_; TO.neg ho hg hd hx (by rw [Lt h.1 h.2]; exact kk)
theorem TO.mkI {t e : TypeId} {x y : Operand} {k k' q : IntKind} {p : Int} {by' : Nat} (h : mkok p) (q0_ : ops[i]? = some ⟨some d, .makeSlice t x y, ty, pos, af, g⟩ ∧ Zg ops E g = true ∧ Nat.ble (d + 1) C.n = true ∧ ev E x = some (.int k p) ∧ ev E y = some (.int k' p)) (ht : Zr C.P t = some e) (hs : Zq C.P e = some 1) (hz : Yl C.P e = some (.int q 0)) (hb : Xi C.P e = some by') (hby : Nat.ble by' 8 = true)
    (kk : ∀ b, TO C ops Q l ((d, .slice (some ⟨b, 0, none⟩) p.toNat p.toNat) :: E) ((some b, .cells (arr (intC q) (List.replicate p.toNat 0) []).toArray e (0, 0)) :: H)) : TO C ops Q (i :: l) E H := have ⟨ho, hg, hd, hx, hy⟩ := q0_;
  TO.makeI ho hg hd hx hy ht hs hz hb h.1 (by
    have := Nat.le_of_ble_eq_true hby
    have h2 : p.toNat ≤ 4294967296 := by have := h.2; omega
    have := Nat.mul_le_mul this h2; omega) (by have := h.2; omega) kk
theorem TO.mkB {t e : TypeId} {x y : Operand} {k k' : IntKind} {p : Int} {by' : Nat} (h : mkok p) (q0_ : ops[i]? = some ⟨some d, .makeSlice t x y, ty, pos, af, g⟩ ∧ Zg ops E g = true ∧ Nat.ble (d + 1) C.n = true ∧ ev E x = some (.int k p) ∧ ev E y = some (.int k' p)) (ht : Zr C.P t = some e) (hs : Zq C.P e = some 1) (hz : Yl C.P e = some (.bool false)) (hb : Xi C.P e = some by') (hby : Nat.ble by' 8 = true)
    (kk : ∀ b, TO C ops Q l ((d, .slice (some ⟨b, 0, none⟩) p.toNat p.toNat) :: E) ((some b, .cells (arr boolC (List.replicate p.toNat false) []).toArray e (0, 0)) :: H)) : TO C ops Q (i :: l) E H := have ⟨ho, hg, hd, hx, hy⟩ := q0_;
  TO.makeB ho hg hd hx hy ht hs hz hb h.1 (by
    have := Nat.le_of_ble_eq_true hby
    have h2 : p.toNat ≤ 4294967296 := by have := h.2; omega
    have := Nat.mul_le_mul this h2; omega) (by have := h.2; omega) kk
theorem TO.app {α : Type} {f : α → List Value} {s by' : Nat} {z : Value} {t e : TypeId} {x y : Operand} {ob : Option Nat} {base : Option Addr} {n c m cy : Nat} {xs ys : List α} {j : List Value}
    (hf : ∀ x, (f x).length = s) (h1 : ∀ x, (f x).all (·.oneCell') = true) (hT : ElemT C.P t e s by' z) (hk : apok (xs ++ ys).length by')
    (q0_ : ops[i]? = some ⟨some d, .call ⟨.builtin .append, #[x, y], #[t, t]⟩, ty, pos, af, g⟩ ∧ Zg ops E g = true ∧ Nat.ble (d + 1) C.n = true ∧ ev E x = some (.slice (sb ob) n c) ∧ ev E y = some (.slice base m cy))
    (ht : Take (ob, .cells (arr f xs j).toArray e (0, 0)) H R) (hn : xs.length = n) (hnc : n ≤ c) (hj : j.length = (c - n) * s) (h0 : ob = none → c = 0)
    (hsrc : ∀ w, Inv C.w0 C.M w H → RS w [] f s base m cy ys)
    (kk : ∀ (ob' : Option Nat) (c' : Nat) (j' : List Value), n + m ≤ c' → j'.length = (c' - (n + m)) * s → (ob' = none → c' = 0) → TO C ops Q l ((d, .slice (sb ob') (n + m) c') :: E) ((ob', .cells (arr f (xs ++ ys) j').toArray e (0, 0)) :: R)) :
    TO C ops Q (i :: l) E H := by
  obtain ⟨ho, hg, hd, hx, hy⟩ := q0_
  by_cases hm : ys.length = m
  · have hl : (xs ++ ys).length = n + m := Kk hn hm
    rw [hl] at hk
    exact TO.append hf h1 hT ho hg hd hx hy ht hn hnc hj h0 (fun w hi => (hsrc w hi).ro) hk.1 hk.2 kk
  · intro a w _ hi
    exact absurd (hsrc w hi).len hm
theorem Yj {f : FuncId} {xs : Array Operand} {at' : Array TypeId} {vs : List Value} {Post : Value → Heap → Prop} (hF : Yn C.P f = true)
    (q0_ : ops[i]? = some ⟨some d, .call ⟨.value (.func f), xs, at'⟩, ty, pos, af, g⟩ ∧ Zg ops E g = true ∧ Nat.ble (d + 1) C.n = true ∧ evs E xs.toList = some vs)
    (hc : ∀ w, Inv C.w0 C.M w H → Fnc C.P f vs.toArray w [] Post)
    (kk : ∀ v N, Post v N → TO C ops Q l ((d, v) :: E) (N ++ H)) : TO C ops Q (i :: l) E H := have ⟨ho, hg, hd, hx⟩ := q0_; TO.call ho hg hd hF hx hc kk
end rules
end Go.Acq
namespace Go.Acq
open Go Go.RowKit
section rules
variable {C : Cx} {ops : Array Oper} {Q : Exit → Act → World → Prop} {l : List Nat} {E : Env} {H R : Heap} {i d : Nat} {ty : TypeId} {pos : String} {af : Array Edge} {g : Option (Nat × Bool)}
theorem Z2f {t : TypeId} {x : Operand} {b o : Nat} {cs : List Value} {v : Value} (hc : HB C.w0 C.M b cs) (q0_ : ops[i]? = some ⟨some d, .load t x, ty, pos, af, g⟩ ∧ Zg ops E g = true ∧ Nat.ble (d + 1) C.n = true ∧ ev E x = some (.pointer (some ⟨b, o, none⟩)) ∧ cs[o]? = some v) (hT : Yr C.P t = true)
    (kk : TO C ops Q l ((d, v) :: E) H) : TO C ops Q (i :: l) E H := have ⟨ho, hg, hd, hx, hv⟩ := q0_; TO.load ho hg hd hx hT (fun w hi => hi.cell_old (hc.has o v hv) hc.far) kk
theorem Z1s {t : TypeId} {x : Operand} {b k : Nat} {cs : List Value} (hc : HB C.w0 C.M b cs) (q0_ : ops[i]? = some ⟨some d, .load t x, ty, pos, af, g⟩ ∧ Zg ops E g = true ∧ Nat.ble (d + 1) C.n = true ∧ ev E x = some (.pointer (some ⟨b, 0, none⟩)) ∧ cs.length = k) (hT : Xu C.P t k = true)
    (kk : TO C ops Q l ((d, .agg cs.toArray) :: E) H) : TO C ops Q (i :: l) E H := have ⟨ho, hg, hd, hx, hk⟩ := q0_;
  Rd ho hg hd hx hT hk (fun w hi j v hv => by rw [Addr.add_mid, Nat.zero_add]; exact hi.cell_old (hc.has j v hv) hc.far) kk
theorem Z3j {f : FuncId} {xs : Array Operand} {at' : Array TypeId} {vs : List Value} {M : List Nat} {Hm : Heap} {Post : Value → Heap → Prop} (hF : Yn C.P f = true)
    (q0_ : ops[i]? = some ⟨some d, .call ⟨.value (.func f), xs, at'⟩, ty, pos, af, g⟩ ∧ Zg ops E g = true ∧ Nat.ble (d + 1) C.n = true ∧ evs E xs.toList = some vs) (hH : List.Perm H (Hm ++ R)) (hM : Hm.filterMap (·.1) = M)
    (hc : ∀ w, Inv C.w0 C.M w H → Fnc C.P f vs.toArray w M Post)
    (kk : ∀ v N, Post v N → TO C ops Q l ((d, v) :: E) (N ++ R)) : TO C ops Q (i :: l) E H := have ⟨ho, hg, hd, hx⟩ := q0_;
  Z0y (Hm := Hm) (R := R) ho hg rfl (by simp) hd (fun a w hf hi => by
    have e1 : xs.map a.eval = vs.toArray := by apply Array.ext'; simpa using Jm hf hx
    simp [execOp, resolve, Deferred.ofValue, invoke, Act.eval, e1, Un hF]) hH (fun m h => by rw [hM]; exact h) hc kk
theorem Vy {f : FuncId} {x : Operand} {xs : Array Operand} {at' : Array TypeId} {vs : List Value} {fs cs : Array Value} {Post : Value → Heap → Prop} (hF : Yn C.P f = true)
    (q0_ : ops[i]? = some ⟨some d, .call ⟨.value x, xs, at'⟩, ty, pos, af, g⟩ ∧ Zg ops E g = true ∧ Nat.ble (d + 1) C.n = true ∧ ev E x = some (.func (.func f) fs cs) ∧ evs E xs.toList = some vs)
    (hc : ∀ w, Inv C.w0 C.M w H → Fnc C.P f (fs ++ vs.toArray ++ cs) w [] Post)
    (kk : ∀ v N, Post v N → TO C ops Q l ((d, v) :: E) (N ++ H)) : TO C ops Q (i :: l) E H := have ⟨ho, hg, hd, hfv, hx⟩ := q0_; TO.callV ho hg hd hF hfv hx hc kk
end rules
section ends
variable {C : Cx} {E : Env} {H N : Heap}
end ends
end Go.Acq
namespace Go.Acq
open Go Go.RowKit
section
variable {C : Cx} {ops : Array Oper} {Q : Exit → Act → World → Prop} {l : List Nat} {E : Env} {H : Heap} {c : Code}
end
end Go.Acq
namespace Go.Acq
open Go Go.RowKit
section control
variable {C : Cx} {Q : Exit → Act → World → Prop} {E : Env} {H : Heap} {c : Code}
def RAt (C : Cx) (c : Code) (Q : Exit → Act → World → Prop) (a : Act) (w : World) : Prop :=
  ∀ (b : Frame) (k : List Item) (cs : List Frame), b.roundOf = (FW C.ρ).round → (FW C.ρ).fn b.fn → (FW C.ρ).room (cs.length + 1 + 0) →
    ∃ e a' w', Q e a' w' ∧ ArrivesIn (Machine.fenced C.P (FW C.ρ)) C.P (lone (b.atR a (.code c :: .inLoop c :: k)) cs w) b k cs e a' w'
def RT (C : Cx) (c : Code) (Q : Exit → Act → World → Prop) (E : Env) (H : Heap) : Prop := ∀ a w, Fits C.n C.D E a → Inv C.w0 C.M w H → RAt C c Q a w
theorem T.loopU (h : RT C c Q E H) : T C (.loop c) Q E H := by
 intro a w hf hi b k cs hro hb hr
 obtain ⟨e, a', w', hq, harr⟩ := h a w hf hi b k cs hro hb hr
 exact ⟨e, a', w', hq, .of_steps (.one (fenced_calm hb hr rfl) stepR_loop) harr⟩
theorem Uv (h : T C c (Exit.then (RAt C c Q) Q) E H) : RT C c Q E H := by
 intro a w hf hi b k cs hro hb hr
 obtain ⟨e, a₁, w₁, hq, harr⟩ := h a w hf hi b (.inLoop c :: k) cs hro hb hr
 cases e with
 | normal =>
  obtain ⟨e₂, a₂, w₂, hq₂, harr₂⟩ := hq b k cs hro hb hr
  exact ⟨e₂, a₂, w₂, hq₂, .of_steps (StepsIn.trans harr (.one (fenced_calm hb hr rfl) stepR_inLoop)) harr₂⟩
 | exit id => exact ⟨_, a₁, w₁, hq, .pass (x := .inLoop c) rfl (fun _ _ => .inl (by simp)) harr⟩
 | goto l => exact ⟨_, a₁, w₁, hq, .pass (x := .inLoop c) rfl (fun _ _ => .inl (by simp)) harr⟩
 | ret => exact ⟨_, a₁, w₁, hq, .pass (x := .inLoop c) rfl (fun _ _ => .inl (by simp)) harr⟩
 | panic ch => exact ⟨_, a₁, w₁, hq, .pass (x := .inLoop c) rfl (fun _ _ => .inl (by simp)) harr⟩
 | outgrown => exact ⟨_, a₁, w₁, hq, .pass (x := .inLoop c) rfl (fun _ _ => .inl (by simp)) harr⟩
theorem Km (h : RT C c Q E H) : X C (Exit.then (RAt C c Q) Q) .normal E H := h
end control
section
variable {α : Type} {w : World} {M : List Nat} {f : α → List Value} {s n c : Nat} {base : Option Addr} {xs : List α}
def Wx (base : Option Addr) (l c s : Nat) : Option Addr := if c = l then base else base.map (·.add (l * s))
theorem RS.take (h : RS w M f s base n c xs) {p : Int} (hp : 0 ≤ p ∧ p ≤ (xs.length : Int)) : RS w M f s base p.toNat c (xs.take p.toNat) := by
 have hl := h.len
 have hm : p.toNat ≤ n := by omega
 exact ⟨h.ro.take hm, fun a ha h0 => h.far a ha (by omega), Nat.le_trans hm h.cap⟩
theorem ea_low (base : Option Addr) (l c s o : Nat) (hb : base ≠ none) (hc : c ≠ l) : ea (Wx base l c s) o = ea base (l * s + o) := by
 cases base with
 | none => exact absurd rfl hb
 | some a =>
  unfold Wx
  rw [if_neg hc]
  show (a.add (l * s)).add o = _
  exact Rm (some a) (l * s) o
theorem RS.drop (h : RS w M f s base n c xs) {p : Int} (hp : 0 ≤ p ∧ p ≤ (xs.length : Int)) : RS w M f s (Wx base p.toNat c s) (n - p.toNat) (c - p.toNat) (xs.drop p.toNat) := by
 have hl := h.len
 have hc := h.cap
 refine ⟨⟨by rw [List.length_drop, hl], fun hb => ?_, h.ro.wide, fun o q ho hq x hx => ?_⟩, fun a ha h0 => ?_, by omega⟩
 ·
  unfold Wx at hb
  split at hb
  · omega
  ·
   have : base = none := by cases base <;> simp_all
   have := h.ro.nil this; omega
 ·
  rw [List.length_drop] at ho
  have hcl : c ≠ p.toNat := by omega
  have hbn : base ≠ none := fun e => by have := h.ro.nil e; omega
  rw [ea_low base _ _ _ _ hbn hcl, show p.toNat * s + (o * s + q) = (p.toNat + o) * s + q by rw [Nat.add_mul]; omega]
  exact h.ro.cell (p.toNat + o) q (by omega) hq x (by rw [List.getElem?_drop] at hx; exact hx)
 ·
  cases base with
  | none => unfold Wx at ha; split at ha <;> cases ha
  | some a0 =>
   have := h.far a0 rfl (by omega)
   unfold Wx at ha
   split at ha
   · injection ha with ha; subst ha; exact this
   ·
    simp only [Option.map_some, Option.some.injEq] at ha
    subst ha
    have : (a0.add (p.toNat * s)).block = a0.block := by simp only [Addr.add]; split <;> rfl
    rw [this]; assumption
end
section rules
variable {C : Cx} {ops : Array Oper} {Q : Exit → Act → World → Prop} {l : List Nat} {E : Env} {H R : Heap} {i d : Nat} {ty : TypeId} {pos : String} {af : Array Edge} {g : Option (Nat × Bool)}
theorem TO.slH {α : Type} {xs : List α} {t e : TypeId} {x y : Operand} {base : Option Addr} {n c s : Nat} {k : IntKind} {p : Int} (hn : xs.length = n) (hc : n ≤ c) (hp : 0 ≤ p ∧ p ≤ (xs.length : Int))
    (q0_ : ops[i]? = some ⟨some d, .slice t x none (some y) none, ty, pos, af, g⟩ ∧ Zg ops E g = true ∧ Nat.ble (d + 1) C.n = true ∧ ev E x = some (.slice base n c) ∧ ev E y = some (.int k p)) (ht : Zr C.P t = some e) (hs : Zq C.P e = some s)
    (kk : TO C ops Q l ((d, .slice base p.toNat c) :: E) H) : TO C ops Q (i :: l) E H := have ⟨ho, hg, hd, hx, hy⟩ := q0_;
  Z5u ho hg hd hx hy ht hs hp.1 (by have := hp.2; omega) kk
theorem TO.slL {α : Type} {xs : List α} {t e : TypeId} {x y : Operand} {base : Option Addr} {n c s : Nat} {k : IntKind} {p : Int} (hn : xs.length = n) (hp : 0 ≤ p ∧ p ≤ (xs.length : Int))
    (q0_ : ops[i]? = some ⟨some d, .slice t x (some y) none none, ty, pos, af, g⟩ ∧ Zg ops E g = true ∧ Nat.ble (d + 1) C.n = true ∧ ev E x = some (.slice base n c) ∧ ev E y = some (.int k p)) (ht : Zr C.P t = some e) (hs : Zq C.P e = some s)
    (kk : TO C ops Q l ((d, .slice (Wx base p.toNat c s) (n - p.toNat) (c - p.toNat)) :: E) H) : TO C ops Q (i :: l) E H := have ⟨ho, hg, hd, hx, hy⟩ := q0_;
  TO.val ho hg hd (by simp) (fun a w hf hi => by
    have hu := Xt ht
    have h1 : 0 ≤ p ∧ p ≤ (n : Int) := by rw [hn] at hp; exact hp
    simp [execOp, hf.ev hx, hf.ev hy, Instr.sliceAt, Instr.slice, Instr.sliceBounds, Instr.sliceBound, asIntOf, run_underlying hu, h1.1, h1.2, Wp hs, Wx]) kk
theorem Ji {t e : TypeId} {x y : Operand} {cs vs : List Value} {k : IntKind} {p : Int} {n s : Nat} (q0_ : ops[i]? = some ⟨some d, .index t x y, ty, pos, af, g⟩ ∧ Zg ops E g = true ∧ Nat.ble (d + 1) C.n = true ∧ ev E x = some (.agg cs.toArray) ∧ ev E y = some (.int k p)) (hT : C.P.underlying t = some (.array n e)) (hs : Xu C.P e s = true) (h0 : 0 ≤ p ∧ p < (n : Int)) (hv : (cs.drop (p.toNat * s)).take s = vs)
    (kk : TO C ops Q l ((d, .agg vs.toArray) :: E) H) : TO C ops Q (i :: l) E H := have ⟨ho, hg, hd, hx, hy⟩ := q0_; Z3x ho hg hd hx hy hT hs h0.1 h0.2 hv kk
theorem Z61 {α : Type} {f : α → List Value} {s : Nat} (z : α) (hf : (f z).length = s) (hs : 0 < s) (n : Nat) : madeCells (f z).toArray (n * s) = (arr f (List.replicate n z) []).toArray := by
 unfold madeCells
 apply Array.ext'
 simp only [Array.toList_map, Array.toList_range, List.size_toArray, hf, arr, List.append_nil]
 apply List.ext_getElem?
 intro i
 rw [List.getElem?_map]
 by_cases hi : i < n * s
 ·
  rw [List.getElem?_range hi]
  have h1 : i / s < (List.replicate n z).length := by rw [List.length_replicate]; exact Nat.div_lt_of_lt_mul (by rw [Nat.mul_comm]; exact hi)
  have h2 : i % s < s := Nat.mod_lt _ hs
  have hq : ∀ (xs : List α) (o c : Nat), (∀ x, x ∈ xs → (f x).length = s) → o < xs.length → c < s → (xs.flatMap f)[o * s + c]? = (f (xs.getD o z))[c]? := by
   intro xs
   induction xs with
   | nil => intro o c _ h; simp at h
   | cons x xs ih =>
    intro o c hl h hc
    have hx := hl x (.head _)
    cases o with
    | zero => rw [List.flatMap_cons, Nat.zero_mul, Nat.zero_add, List.getElem?_append_left (by rw [hx]; exact hc)]; rfl
    | succ o =>
     rw [List.flatMap_cons, List.getElem?_append_right (by rw [hx, Nat.add_mul]; omega), hx]
     have : (o + 1) * s + c - s = o * s + c := by rw [Nat.add_mul]; omega
     rw [this, ih o c (fun y hy => hl y (.tail _ hy)) (by simpa using h) hc]; rfl
  have h3 := hq (List.replicate n z) (i / s) (i % s) (fun x hx => by rw [List.eq_of_mem_replicate hx]; exact hf) h1 h2
  have h4 : i / s * s + i % s = i := by rw [Nat.mul_comm]; exact Nat.div_add_mod i s
  rw [h4] at h3
  rw [h3]
  have h5 : (List.replicate n z).getD (i / s) z = z := by rw [List.getD_eq_getElem?_getD, List.getElem?_replicate]; split <;> simp
  rw [h5]
  have h6 : i % s < (f z).length := by rw [hf]; exact h2
  simp [h6]
 ·
  rw [List.getElem?_eq_none (by simp; omega), List.getElem?_eq_none]
  · rfl
  ·
   have : ((List.replicate n z).flatMap f).length = n * s := by
    clear hi
    induction n with
    | zero => simp
    | succ n ih => rw [List.replicate_succ, List.flatMap_cons, List.length_append, ih, hf, Nat.add_mul]; omega
   omega
theorem TO.mkS {α : Type} {f : α → List Value} {t e : TypeId} {x y : Operand} {k k' : IntKind} {p : Int} {z : Value} {zc : α} {by' s : Nat} (h : mkok p) (q0_ : ops[i]? = some ⟨some d, .makeSlice t x y, ty, pos, af, g⟩ ∧ Zg ops E g = true ∧ Nat.ble (d + 1) C.n = true ∧ ev E x = some (.int k p) ∧ ev E y = some (.int k' p) ∧ (f zc).length = s ∧ Nat.ble 1 s = true ∧ z.cells = (f zc).toArray) (ht : Zr C.P t = some e) (hs : Zq C.P e = some s) (hz : Yl C.P e = some z) (hb : Xi C.P e = some by') (hby : Nat.ble by' 1024 = true)
    (kk : ∀ b, TO C ops Q l ((d, .slice (some ⟨b, 0, none⟩) p.toNat p.toNat) :: E) ((some b, .cells (arr f (List.replicate p.toNat zc) []).toArray e (0, 0)) :: H)) : TO C ops Q (i :: l) E H := by
  obtain ⟨ho, hg, hd, hx, hy, hf, hs0, hzc⟩ := q0_
  obtain ⟨ti, hti, hsz⟩ := Vh hs
  have hz' : ti.zero = some z := by simpa [Yl, hti] using hz
  have hb' : ti.bytes = by' := by simpa [Xi, hti] using hb
  have hby' := Nat.le_of_ble_eq_true hby
  have h0 := h.1
  have h1 := h.2
  refine TO.new (fun b => .slice (some ⟨b, 0, none⟩) p.toNat p.toNat) ho hg hd (by simp) (fun a w hfit hi => ?_) kk
  have hr := run_make (P := C.P) w t e ti z (Xt ht) hti hz' k k' p p h0 (Int.le_refl _) (by
    rw [hb']
    have h2 : (by' : Int) * p ≤ 1024 * 4294967296 := Int.mul_le_mul (by omega) h1 h0 (by omega)
    omega) (by omega)
  rw [hsz, hzc, Z61 zc hf (Nat.le_of_ble_eq_true hs0)] at hr
  simp [execOp, hfit.ev hx, hfit.ev hy, hr]
theorem Kc {op : BinOp} {t t2 : TypeId} {x y : Operand} {k : IntKind} {p q : Int} {c : Prop} {hc : Decidable c} {b : Bool}
    (q0_ : ops[i]? = some ⟨some d, .binOp op t x y t2, ty, pos, af, g⟩ ∧ Zg ops E g = true ∧ Nat.ble (d + 1) C.n = true ∧ ev E x = some (.int k p) ∧ ev E y = some (.int k q) ∧ Uu op k p q = some (.bool (@decide c hc))) (h : @decide c hc = b) (kk : TO C ops Q l ((d, .bool b) :: E) H) : TO C ops Q (i :: l) E H := have ⟨ho, hg, hd, hx, hy, hv⟩ := q0_;
  Zn ⟨ho, hg, hd, hx, hy, hv⟩ (by rw [h]; exact kk)
theorem Ky {t t2 : TypeId} {x y : Operand} {p q r : Int} (h : p + q = r ∧ i64ok r)
    (q0_ : ops[i]? = some ⟨some d, .binOp .add t x y t2, ty, pos, af, g⟩ ∧ Zg ops E g = true ∧ Nat.ble (d + 1) C.n = true ∧ ev E x = some (.int .i64 p) ∧ ev E y = some (.int .i64 q))
    (kk : TO C ops Q l ((d, .int .i64 r) :: E) H) : TO C ops Q (i :: l) E H := have ⟨ho, hg, hd, hx, hy⟩ := q0_; Xr (by rw [h.1]; exact h.2) ⟨ho, hg, hd, hx, hy⟩ (by rw [h.1]; exact kk)
end rules
end Go.Acq
namespace Go.Acq
open Go Go.RowKit
end Go.Acq
namespace Go.Acq
open Go Go.RowKit
theorem Z48 {a : Int} (h : u64ok a) : IntKind.u64.wrap a = a := by rw [IntKind.wrap_u64]; omega
section rules
variable {C : Cx} {ops : Array Oper} {Q : Exit → Act → World → Prop} {l : List Nat} {E : Env} {H R : Heap} {i d : Nat} {ty : TypeId} {pos : String} {af : Array Edge} {g : Option (Nat × Bool)}
theorem TO.shrL {t t2 : TypeId} {x y : Operand} {k k2 : IntKind} {p q : Int} {m : Nat} (q0_ : ops[i]? = some ⟨some d, .binOp .shr t x y t2, ty, pos, af, g⟩ ∧ Zg ops E g = true ∧ Nat.ble (d + 1) C.n = true ∧ ev E x = some (.int k p) ∧ ev E y = some (.int k2 q) ∧ q = (m : Int) ∧ min m k.bits = m)
    (kk : TO C ops Q l ((d, .int k (p.fdiv (2 ^ m))) :: E) H) : TO C ops Q (i :: l) E H := have ⟨ho, hg, hd, hx, hy, hq, hm⟩ := q0_;
  TO.val ho hg hd (by simp) (fun a w hf _ => by
    subst hq
    have : (binOp .shr t (.int k p) (.int k2 (m : Int))) = pure (.int k (p.fdiv (2 ^ m))) := by
      simp only [binOp, Op.shift]
      rw [if_neg (by omega)]
      simp only [Int.toNat_natCast, hm]
    simp [execOp, hf.ev hx, hf.ev hy, eqGuard_at_int, this]) kk
end rules
end Go.Acq
namespace Go.Acq
open Go Go.RowKit
section rules
variable {C : Cx} {ops : Array Oper} {Q : Exit → Act → World → Prop} {l : List Nat} {E : Env} {H R : Heap} {i d : Nat} {ty : TypeId} {pos : String} {af : Array Edge} {g : Option (Nat × Bool)}
end rules
end Go.Acq
namespace Go.Acq
open Go Go.RowKit
section
variable {C : Cx} {Q : Exit → Act → World → Prop} {E : Env} {H : Heap} {c x y : Code}
theorem Wn {α0 : Type} (φ : α0 → Prop) (L : α0 → Env) (Hs : α0 → Heap) (hx : T C x (Exit.then (fun ac w => ∃ (b0 : α0), φ b0 ∧ Fits C.n C.D (L b0) ac ∧ Inv C.w0 C.M w (Hs b0)) Q) E H)
    (hy : ∀ (b0 : α0), φ b0 → T C y Q (L b0) (Hs b0)) : T C x (Exit.then (y.wpIn (FW C.ρ) 0 C.P Q) Q) E H := T.mono hx (fun e ac w h => by
  cases e with
  | normal => obtain ⟨b0, h1, h2, h3⟩ := h; exact hy b0 h1 ac w h2 h3
  | _ => exact h)
theorem Xe {α0 : Type} {φ : α0 → Prop} {L : α0 → Env} {Hs : α0 → Heap} (b0 : α0) (hφ : φ b0) (hL : AllF (L b0) E) (hH : Pick (Hs b0) H) :
    X C (Exit.then (fun ac w => ∃ (b0 : α0), φ b0 ∧ Fits C.n C.D (L b0) ac ∧ Inv C.w0 C.M w (Hs b0)) Q) .normal E H := fun _ _ hf hi => ⟨b0, hφ, hf.all hL, hi.pick hH⟩
theorem Ri {α0 α1 : Type} (φ : α0 → α1 → Prop) (L : α0 → α1 → Env) (Hs : α0 → α1 → Heap) (μ : α0 → α1 → Nat) (a0 : α0) (a1 : α1) (h0 : φ a0 a1) (hE : AllF (L a0 a1) E) (hH : Pick (Hs a0 a1) H)
    (round : ∀ (a0 : α0) (a1 : α1), φ a0 a1 → T C c (Exit.then (fun ac w => ∃ (b0 : α0) (b1 : α1), φ b0 b1 ∧ μ b0 b1 < μ a0 a1 ∧ Fits C.n C.D (L b0 b1) ac ∧ Inv C.w0 C.M w (Hs b0 b1)) Q) (L a0 a1) (Hs a0 a1)) : T C (.loop c) Q E H :=
  Jk (α := α0 × α1) (fun s => φ s.1 s.2) (fun s => L s.1 s.2) (fun s => Hs s.1 s.2) (fun s => μ s.1 s.2) (a0, a1) h0 hE hH (fun s hs => T.mono (round s.1 s.2 hs) (fun e ac w h => by
    cases e with
    | normal => obtain ⟨b0, b1, h1, h2, h3, h4⟩ := h; exact ⟨⟨b0, b1⟩, h1, h2, h3, h4⟩
    | _ => exact h))
theorem Z0e {α0 α1 : Type} {φ : α0 → α1 → Prop} {L : α0 → α1 → Env} {Hs : α0 → α1 → Heap} {μ : α0 → α1 → Nat} {m : Nat} (b0 : α0) (b1 : α1) (hφ : φ b0 b1) (hμ : μ b0 b1 < m) (hL : AllF (L b0 b1) E) (hH : Pick (Hs b0 b1) H) :
    X C (Exit.then (fun ac w => ∃ (b0 : α0) (b1 : α1), φ b0 b1 ∧ μ b0 b1 < m ∧ Fits C.n C.D (L b0 b1) ac ∧ Inv C.w0 C.M w (Hs b0 b1)) Q) .normal E H := fun _ _ hf hi => ⟨b0, b1, hφ, hμ, hf.all hL, hi.pick hH⟩
theorem Z58 {α0 α1 : Type} (φ : α0 → α1 → Prop) (L : α0 → α1 → Env) (Hs : α0 → α1 → Heap) (hx : T C x (Exit.then (fun ac w => ∃ (b0 : α0) (b1 : α1), φ b0 b1 ∧ Fits C.n C.D (L b0 b1) ac ∧ Inv C.w0 C.M w (Hs b0 b1)) Q) E H)
    (hy : ∀ (b0 : α0) (b1 : α1), φ b0 b1 → T C y Q (L b0 b1) (Hs b0 b1)) : T C x (Exit.then (y.wpIn (FW C.ρ) 0 C.P Q) Q) E H := T.mono hx (fun e ac w h => by
  cases e with
  | normal => obtain ⟨b0, b1, h1, h2, h3⟩ := h; exact hy b0 b1 h1 ac w h2 h3
  | _ => exact h)
theorem X.metE2 {α0 α1 : Type} {φ : α0 → α1 → Prop} {L : α0 → α1 → Env} {Hs : α0 → α1 → Heap} (b0 : α0) (b1 : α1) (hφ : φ b0 b1) (hL : AllF (L b0 b1) E) (hH : Pick (Hs b0 b1) H) :
    X C (Exit.then (fun ac w => ∃ (b0 : α0) (b1 : α1), φ b0 b1 ∧ Fits C.n C.D (L b0 b1) ac ∧ Inv C.w0 C.M w (Hs b0 b1)) Q) .normal E H := fun _ _ hf hi => ⟨b0, b1, hφ, hf.all hL, hi.pick hH⟩
theorem Nc {α0 α1 α2 : Type} (φ : α0 → α1 → α2 → Prop) (L : α0 → α1 → α2 → Env) (Hs : α0 → α1 → α2 → Heap) (μ : α0 → α1 → α2 → Nat) (a0 : α0) (a1 : α1) (a2 : α2) (h0 : φ a0 a1 a2) (hE : AllF (L a0 a1 a2) E) (hH : Pick (Hs a0 a1 a2) H)
    (round : ∀ (a0 : α0) (a1 : α1) (a2 : α2), φ a0 a1 a2 → T C c (Exit.then (fun ac w => ∃ (b0 : α0) (b1 : α1) (b2 : α2), φ b0 b1 b2 ∧ μ b0 b1 b2 < μ a0 a1 a2 ∧ Fits C.n C.D (L b0 b1 b2) ac ∧ Inv C.w0 C.M w (Hs b0 b1 b2)) Q) (L a0 a1 a2) (Hs a0 a1 a2)) : T C (.loop c) Q E H :=
  Jk (α := α0 × α1 × α2) (fun s => φ s.1 s.2.1 s.2.2) (fun s => L s.1 s.2.1 s.2.2) (fun s => Hs s.1 s.2.1 s.2.2) (fun s => μ s.1 s.2.1 s.2.2) (a0, a1, a2) h0 hE hH (fun s hs => T.mono (round s.1 s.2.1 s.2.2 hs) (fun e ac w h => by
    cases e with
    | normal => obtain ⟨b0, b1, b2, h1, h2, h3, h4⟩ := h; exact ⟨⟨b0, b1, b2⟩, h1, h2, h3, h4⟩
    | _ => exact h))
theorem Gq {α0 α1 α2 : Type} {φ : α0 → α1 → α2 → Prop} {L : α0 → α1 → α2 → Env} {Hs : α0 → α1 → α2 → Heap} {μ : α0 → α1 → α2 → Nat} {m : Nat} (b0 : α0) (b1 : α1) (b2 : α2) (hφ : φ b0 b1 b2) (hμ : μ b0 b1 b2 < m) (hL : AllF (L b0 b1 b2) E) (hH : Pick (Hs b0 b1 b2) H) :
    X C (Exit.then (fun ac w => ∃ (b0 : α0) (b1 : α1) (b2 : α2), φ b0 b1 b2 ∧ μ b0 b1 b2 < m ∧ Fits C.n C.D (L b0 b1 b2) ac ∧ Inv C.w0 C.M w (Hs b0 b1 b2)) Q) .normal E H := fun _ _ hf hi => ⟨b0, b1, b2, hφ, hμ, hf.all hL, hi.pick hH⟩
theorem T.loopE4 {α0 α1 α2 α3 : Type} (φ : α0 → α1 → α2 → α3 → Prop) (L : α0 → α1 → α2 → α3 → Env) (Hs : α0 → α1 → α2 → α3 → Heap) (μ : α0 → α1 → α2 → α3 → Nat) (a0 : α0) (a1 : α1) (a2 : α2) (a3 : α3) (h0 : φ a0 a1 a2 a3) (hE : AllF (L a0 a1 a2 a3) E) (hH : Pick (Hs a0 a1 a2 a3) H)
    (round : ∀ (a0 : α0) (a1 : α1) (a2 : α2) (a3 : α3), φ a0 a1 a2 a3 → T C c (Exit.then (fun ac w => ∃ (b0 : α0) (b1 : α1) (b2 : α2) (b3 : α3), φ b0 b1 b2 b3 ∧ μ b0 b1 b2 b3 < μ a0 a1 a2 a3 ∧ Fits C.n C.D (L b0 b1 b2 b3) ac ∧ Inv C.w0 C.M w (Hs b0 b1 b2 b3)) Q) (L a0 a1 a2 a3) (Hs a0 a1 a2 a3)) : T C (.loop c) Q E H :=
  Jk (α := α0 × α1 × α2 × α3) (fun s => φ s.1 s.2.1 s.2.2.1 s.2.2.2) (fun s => L s.1 s.2.1 s.2.2.1 s.2.2.2) (fun s => Hs s.1 s.2.1 s.2.2.1 s.2.2.2) (fun s => μ s.1 s.2.1 s.2.2.1 s.2.2.2) (a0, a1, a2, a3) h0 hE hH (fun s hs => T.mono (round s.1 s.2.1 s.2.2.1 s.2.2.2 hs) (fun e ac w h => by
    cases e with
    | normal => obtain ⟨b0, b1, b2, b3, h1, h2, h3, h4⟩ := h; exact ⟨⟨b0, b1, b2, b3⟩, h1, h2, h3, h4⟩
    | _ => exact h))
theorem Z1a {α0 α1 α2 α3 : Type} {φ : α0 → α1 → α2 → α3 → Prop} {L : α0 → α1 → α2 → α3 → Env} {Hs : α0 → α1 → α2 → α3 → Heap} {μ : α0 → α1 → α2 → α3 → Nat} {m : Nat} (b0 : α0) (b1 : α1) (b2 : α2) (b3 : α3) (hφ : φ b0 b1 b2 b3) (hμ : μ b0 b1 b2 b3 < m) (hL : AllF (L b0 b1 b2 b3) E) (hH : Pick (Hs b0 b1 b2 b3) H) :
    X C (Exit.then (fun ac w => ∃ (b0 : α0) (b1 : α1) (b2 : α2) (b3 : α3), φ b0 b1 b2 b3 ∧ μ b0 b1 b2 b3 < m ∧ Fits C.n C.D (L b0 b1 b2 b3) ac ∧ Inv C.w0 C.M w (Hs b0 b1 b2 b3)) Q) .normal E H := fun _ _ hf hi => ⟨b0, b1, b2, b3, hφ, hμ, hf.all hL, hi.pick hH⟩
theorem Rg {α0 α1 α2 α3 α4 : Type} (φ : α0 → α1 → α2 → α3 → α4 → Prop) (L : α0 → α1 → α2 → α3 → α4 → Env) (Hs : α0 → α1 → α2 → α3 → α4 → Heap) (hx : T C x (Exit.then (fun ac w => ∃ (b0 : α0) (b1 : α1) (b2 : α2) (b3 : α3) (b4 : α4), φ b0 b1 b2 b3 b4 ∧ Fits C.n C.D (L b0 b1 b2 b3 b4) ac ∧ Inv C.w0 C.M w (Hs b0 b1 b2 b3 b4)) Q) E H)
    (hy : ∀ (b0 : α0) (b1 : α1) (b2 : α2) (b3 : α3) (b4 : α4), φ b0 b1 b2 b3 b4 → T C y Q (L b0 b1 b2 b3 b4) (Hs b0 b1 b2 b3 b4)) : T C x (Exit.then (y.wpIn (FW C.ρ) 0 C.P Q) Q) E H := T.mono hx (fun e ac w h => by
  cases e with
  | normal => obtain ⟨b0, b1, b2, b3, b4, h1, h2, h3⟩ := h; exact hy b0 b1 b2 b3 b4 h1 ac w h2 h3
  | _ => exact h)
theorem Z12 {α0 α1 α2 α3 α4 : Type} {φ : α0 → α1 → α2 → α3 → α4 → Prop} {L : α0 → α1 → α2 → α3 → α4 → Env} {Hs : α0 → α1 → α2 → α3 → α4 → Heap} (b0 : α0) (b1 : α1) (b2 : α2) (b3 : α3) (b4 : α4) (hφ : φ b0 b1 b2 b3 b4) (hL : AllF (L b0 b1 b2 b3 b4) E) (hH : Pick (Hs b0 b1 b2 b3 b4) H) :
    X C (Exit.then (fun ac w => ∃ (b0 : α0) (b1 : α1) (b2 : α2) (b3 : α3) (b4 : α4), φ b0 b1 b2 b3 b4 ∧ Fits C.n C.D (L b0 b1 b2 b3 b4) ac ∧ Inv C.w0 C.M w (Hs b0 b1 b2 b3 b4)) Q) .normal E H := fun _ _ hf hi => ⟨b0, b1, b2, b3, b4, hφ, hf.all hL, hi.pick hH⟩
theorem Z2q {α0 α1 α2 α3 α4 α5 α6 : Type} (φ : α0 → α1 → α2 → α3 → α4 → α5 → α6 → Prop) (L : α0 → α1 → α2 → α3 → α4 → α5 → α6 → Env) (Hs : α0 → α1 → α2 → α3 → α4 → α5 → α6 → Heap) (μ : α0 → α1 → α2 → α3 → α4 → α5 → α6 → Nat) (a0 : α0) (a1 : α1) (a2 : α2) (a3 : α3) (a4 : α4) (a5 : α5) (a6 : α6) (h0 : φ a0 a1 a2 a3 a4 a5 a6) (hE : AllF (L a0 a1 a2 a3 a4 a5 a6) E) (hH : Pick (Hs a0 a1 a2 a3 a4 a5 a6) H)
    (round : ∀ (a0 : α0) (a1 : α1) (a2 : α2) (a3 : α3) (a4 : α4) (a5 : α5) (a6 : α6), φ a0 a1 a2 a3 a4 a5 a6 → T C c (Exit.then (fun ac w => ∃ (b0 : α0) (b1 : α1) (b2 : α2) (b3 : α3) (b4 : α4) (b5 : α5) (b6 : α6), φ b0 b1 b2 b3 b4 b5 b6 ∧ μ b0 b1 b2 b3 b4 b5 b6 < μ a0 a1 a2 a3 a4 a5 a6 ∧ Fits C.n C.D (L b0 b1 b2 b3 b4 b5 b6) ac ∧ Inv C.w0 C.M w (Hs b0 b1 b2 b3 b4 b5 b6)) Q) (L a0 a1 a2 a3 a4 a5 a6) (Hs a0 a1 a2 a3 a4 a5 a6)) : T C (.loop c) Q E H :=
  Jk (α := α0 × α1 × α2 × α3 × α4 × α5 × α6) (fun s => φ s.1 s.2.1 s.2.2.1 s.2.2.2.1 s.2.2.2.2.1 s.2.2.2.2.2.1 s.2.2.2.2.2.2) (fun s => L s.1 s.2.1 s.2.2.1 s.2.2.2.1 s.2.2.2.2.1 s.2.2.2.2.2.1 s.2.2.2.2.2.2) (fun s => Hs s.1 s.2.1 s.2.2.1 s.2.2.2.1 s.2.2.2.2.1 s.2.2.2.2.2.1 s.2.2.2.2.2.2) (fun s => μ s.1 s.2.1 s.2.2.1 s.2.2.2.1 s.2.2.2.2.1 s.2.2.2.2.2.1 s.2.2.2.2.2.2) (a0, a1, a2, a3, a4, a5, a6) h0 hE hH (fun s hs => T.mono (round s.1 s.2.1 s.2.2.1 s.2.2.2.1 s.2.2.2.2.1 s.2.2.2.2.2.1 s.2.2.2.2.2.2 hs) (fun e ac w h => by
    cases e with
    | normal => obtain ⟨b0, b1, b2, b3, b4, b5, b6, h1, h2, h3, h4⟩ := h; exact ⟨⟨b0, b1, b2, b3, b4, b5, b6⟩, h1, h2, h3, h4⟩
    | _ => exact h))
theorem Z0x {α0 α1 α2 α3 α4 α5 α6 : Type} {φ : α0 → α1 → α2 → α3 → α4 → α5 → α6 → Prop} {L : α0 → α1 → α2 → α3 → α4 → α5 → α6 → Env} {Hs : α0 → α1 → α2 → α3 → α4 → α5 → α6 → Heap} {μ : α0 → α1 → α2 → α3 → α4 → α5 → α6 → Nat} {m : Nat} (b0 : α0) (b1 : α1) (b2 : α2) (b3 : α3) (b4 : α4) (b5 : α5) (b6 : α6) (hφ : φ b0 b1 b2 b3 b4 b5 b6) (hμ : μ b0 b1 b2 b3 b4 b5 b6 < m) (hL : AllF (L b0 b1 b2 b3 b4 b5 b6) E) (hH : Pick (Hs b0 b1 b2 b3 b4 b5 b6) H) :
    X C (Exit.then (fun ac w => ∃ (b0 : α0) (b1 : α1) (b2 : α2) (b3 : α3) (b4 : α4) (b5 : α5) (b6 : α6), φ b0 b1 b2 b3 b4 b5 b6 ∧ μ b0 b1 b2 b3 b4 b5 b6 < m ∧ Fits C.n C.D (L b0 b1 b2 b3 b4 b5 b6) ac ∧ Inv C.w0 C.M w (Hs b0 b1 b2 b3 b4 b5 b6)) Q) .normal E H := fun _ _ hf hi => ⟨b0, b1, b2, b3, b4, b5, b6, hφ, hμ, hf.all hL, hi.pick hH⟩
theorem Z55 {α0 α1 α2 α3 α4 α5 α6 α7 α8 α9 α10 α11 : Type} (φ : α0 → α1 → α2 → α3 → α4 → α5 → α6 → α7 → α8 → α9 → α10 → α11 → Prop) (L : α0 → α1 → α2 → α3 → α4 → α5 → α6 → α7 → α8 → α9 → α10 → α11 → Env) (Hs : α0 → α1 → α2 → α3 → α4 → α5 → α6 → α7 → α8 → α9 → α10 → α11 → Heap) (μ : α0 → α1 → α2 → α3 → α4 → α5 → α6 → α7 → α8 → α9 → α10 → α11 → Nat) (a0 : α0) (a1 : α1) (a2 : α2) (a3 : α3) (a4 : α4) (a5 : α5) (a6 : α6) (a7 : α7) (a8 : α8) (a9 : α9) (a10 : α10) (a11 : α11) (h0 : φ a0 a1 a2 a3 a4 a5 a6 a7 a8 a9 a10 a11) (hE : AllF (L a0 a1 a2 a3 a4 a5 a6 a7 a8 a9 a10 a11) E) (hH : Pick (Hs a0 a1 a2 a3 a4 a5 a6 a7 a8 a9 a10 a11) H)
    (round : ∀ (a0 : α0) (a1 : α1) (a2 : α2) (a3 : α3) (a4 : α4) (a5 : α5) (a6 : α6) (a7 : α7) (a8 : α8) (a9 : α9) (a10 : α10) (a11 : α11), φ a0 a1 a2 a3 a4 a5 a6 a7 a8 a9 a10 a11 → T C c (Exit.then (fun ac w => ∃ (b0 : α0) (b1 : α1) (b2 : α2) (b3 : α3) (b4 : α4) (b5 : α5) (b6 : α6) (b7 : α7) (b8 : α8) (b9 : α9) (b10 : α10) (b11 : α11), φ b0 b1 b2 b3 b4 b5 b6 b7 b8 b9 b10 b11 ∧ μ b0 b1 b2 b3 b4 b5 b6 b7 b8 b9 b10 b11 < μ a0 a1 a2 a3 a4 a5 a6 a7 a8 a9 a10 a11 ∧ Fits C.n C.D (L b0 b1 b2 b3 b4 b5 b6 b7 b8 b9 b10 b11) ac ∧ Inv C.w0 C.M w (Hs b0 b1 b2 b3 b4 b5 b6 b7 b8 b9 b10 b11)) Q) (L a0 a1 a2 a3 a4 a5 a6 a7 a8 a9 a10 a11) (Hs a0 a1 a2 a3 a4 a5 a6 a7 a8 a9 a10 a11)) : T C (.loop c) Q E H :=
  Jk (α := α0 × α1 × α2 × α3 × α4 × α5 × α6 × α7 × α8 × α9 × α10 × α11) (fun s => φ s.1 s.2.1 s.2.2.1 s.2.2.2.1 s.2.2.2.2.1 s.2.2.2.2.2.1 s.2.2.2.2.2.2.1 s.2.2.2.2.2.2.2.1 s.2.2.2.2.2.2.2.2.1 s.2.2.2.2.2.2.2.2.2.1 s.2.2.2.2.2.2.2.2.2.2.1 s.2.2.2.2.2.2.2.2.2.2.2) (fun s => L s.1 s.2.1 s.2.2.1 s.2.2.2.1 s.2.2.2.2.1 s.2.2.2.2.2.1 s.2.2.2.2.2.2.1 s.2.2.2.2.2.2.2.1 s.2.2.2.2.2.2.2.2.1 s.2.2.2.2.2.2.2.2.2.1 s.2.2.2.2.2.2.2.2.2.2.1 s.2.2.2.2.2.2.2.2.2.2.2) (fun s => Hs s.1 s.2.1 s.2.2.1 s.2.2.2.1 s.2.2.2.2.1 s.2.2.2.2.2.1 s.2.2.2.2.2.2.1 s.2.2.2.2.2.2.2.1 s.2.2.2.2.2.2.2.2.1 s.2.2.2.2.2.2.2.2.2.1 s.2.2.2.2.2.2.2.2.2.2.1 s.2.2.2.2.2.2.2.2.2.2.2) (fun s => μ s.1 s.2.1 s.2.2.1 s.2.2.2.1 s.2.2.2.2.1 s.2.2.2.2.2.1 s.2.2.2.2.2.2.1 s.2.2.2.2.2.2.2.1 s.2.2.2.2.2.2.2.2.1 s.2.2.2.2.2.2.2.2.2.1 s.2.2.2.2.2.2.2.2.2.2.1 s.2.2.2.2.2.2.2.2.2.2.2) (a0, a1, a2, a3, a4, a5, a6, a7, a8, a9, a10, a11) h0 hE hH (fun s hs => T.mono (round s.1 s.2.1 s.2.2.1 s.2.2.2.1 s.2.2.2.2.1 s.2.2.2.2.2.1 s.2.2.2.2.2.2.1 s.2.2.2.2.2.2.2.1 s.2.2.2.2.2.2.2.2.1 s.2.2.2.2.2.2.2.2.2.1 s.2.2.2.2.2.2.2.2.2.2.1 s.2.2.2.2.2.2.2.2.2.2.2 hs) (fun e ac w h => by
    cases e with
    | normal => obtain ⟨b0, b1, b2, b3, b4, b5, b6, b7, b8, b9, b10, b11, h1, h2, h3, h4⟩ := h; exact ⟨⟨b0, b1, b2, b3, b4, b5, b6, b7, b8, b9, b10, b11⟩, h1, h2, h3, h4⟩
    | _ => exact h))
theorem Z2p {α0 α1 α2 α3 α4 α5 α6 α7 α8 α9 α10 α11 : Type} {φ : α0 → α1 → α2 → α3 → α4 → α5 → α6 → α7 → α8 → α9 → α10 → α11 → Prop} {L : α0 → α1 → α2 → α3 → α4 → α5 → α6 → α7 → α8 → α9 → α10 → α11 → Env} {Hs : α0 → α1 → α2 → α3 → α4 → α5 → α6 → α7 → α8 → α9 → α10 → α11 → Heap} {μ : α0 → α1 → α2 → α3 → α4 → α5 → α6 → α7 → α8 → α9 → α10 → α11 → Nat} {m : Nat} (b0 : α0) (b1 : α1) (b2 : α2) (b3 : α3) (b4 : α4) (b5 : α5) (b6 : α6) (b7 : α7) (b8 : α8) (b9 : α9) (b10 : α10) (b11 : α11) (hφ : φ b0 b1 b2 b3 b4 b5 b6 b7 b8 b9 b10 b11) (hμ : μ b0 b1 b2 b3 b4 b5 b6 b7 b8 b9 b10 b11 < m) (hL : AllF (L b0 b1 b2 b3 b4 b5 b6 b7 b8 b9 b10 b11) E) (hH : Pick (Hs b0 b1 b2 b3 b4 b5 b6 b7 b8 b9 b10 b11) H) :
    X C (Exit.then (fun ac w => ∃ (b0 : α0) (b1 : α1) (b2 : α2) (b3 : α3) (b4 : α4) (b5 : α5) (b6 : α6) (b7 : α7) (b8 : α8) (b9 : α9) (b10 : α10) (b11 : α11), φ b0 b1 b2 b3 b4 b5 b6 b7 b8 b9 b10 b11 ∧ μ b0 b1 b2 b3 b4 b5 b6 b7 b8 b9 b10 b11 < m ∧ Fits C.n C.D (L b0 b1 b2 b3 b4 b5 b6 b7 b8 b9 b10 b11) ac ∧ Inv C.w0 C.M w (Hs b0 b1 b2 b3 b4 b5 b6 b7 b8 b9 b10 b11)) Q) .normal E H := fun _ _ hf hi => ⟨b0, b1, b2, b3, b4, b5, b6, b7, b8, b9, b10, b11, hφ, hμ, hf.all hL, hi.pick hH⟩
theorem Z3d {α0 α1 α2 α3 α4 α5 α6 α7 α8 α9 α10 α11 α12 α13 α14 α15 : Type} (φ : α0 → α1 → α2 → α3 → α4 → α5 → α6 → α7 → α8 → α9 → α10 → α11 → α12 → α13 → α14 → α15 → Prop) (L : α0 → α1 → α2 → α3 → α4 → α5 → α6 → α7 → α8 → α9 → α10 → α11 → α12 → α13 → α14 → α15 → Env) (Hs : α0 → α1 → α2 → α3 → α4 → α5 → α6 → α7 → α8 → α9 → α10 → α11 → α12 → α13 → α14 → α15 → Heap) (μ : α0 → α1 → α2 → α3 → α4 → α5 → α6 → α7 → α8 → α9 → α10 → α11 → α12 → α13 → α14 → α15 → Nat) (a0 : α0) (a1 : α1) (a2 : α2) (a3 : α3) (a4 : α4) (a5 : α5) (a6 : α6) (a7 : α7) (a8 : α8) (a9 : α9) (a10 : α10) (a11 : α11) (a12 : α12) (a13 : α13) (a14 : α14) (a15 : α15) (h0 : φ a0 a1 a2 a3 a4 a5 a6 a7 a8 a9 a10 a11 a12 a13 a14 a15) (hE : AllF (L a0 a1 a2 a3 a4 a5 a6 a7 a8 a9 a10 a11 a12 a13 a14 a15) E) (hH : Pick (Hs a0 a1 a2 a3 a4 a5 a6 a7 a8 a9 a10 a11 a12 a13 a14 a15) H)
    (round : ∀ (a0 : α0) (a1 : α1) (a2 : α2) (a3 : α3) (a4 : α4) (a5 : α5) (a6 : α6) (a7 : α7) (a8 : α8) (a9 : α9) (a10 : α10) (a11 : α11) (a12 : α12) (a13 : α13) (a14 : α14) (a15 : α15), φ a0 a1 a2 a3 a4 a5 a6 a7 a8 a9 a10 a11 a12 a13 a14 a15 → T C c (Exit.then (fun ac w => ∃ (b0 : α0) (b1 : α1) (b2 : α2) (b3 : α3) (b4 : α4) (b5 : α5) (b6 : α6) (b7 : α7) (b8 : α8) (b9 : α9) (b10 : α10) (b11 : α11) (b12 : α12) (b13 : α13) (b14 : α14) (b15 : α15), φ b0 b1 b2 b3 b4 b5 b6 b7 b8 b9 b10 b11 b12 b13 b14 b15 ∧ μ b0 b1 b2 b3 b4 b5 b6 b7 b8 b9 b10 b11 b12 b13 b14 b15 < μ a0 a1 a2 a3 a4 a5 a6 a7 a8 a9 a10 a11 a12 a13 a14 a15 ∧ Fits C.n C.D (L b0 b1 b2 b3 b4 b5 b6 b7 b8 b9 b10 b11 b12 b13 b14 b15) ac ∧ Inv C.w0 C.M w (Hs b0 b1 b2 b3 b4 b5 b6 b7 b8 b9 b10 b11 b12 b13 b14 b15)) Q) (L a0 a1 a2 a3 a4 a5 a6 a7 a8 a9 a10 a11 a12 a13 a14 a15) (Hs a0 a1 a2 a3 a4 a5 a6 a7 a8 a9 a10 a11 a12 a13 a14 a15)) : T C (.loop c) Q E H :=
  Jk (α := α0 × α1 × α2 × α3 × α4 × α5 × α6 × α7 × α8 × α9 × α10 × α11 × α12 × α13 × α14 × α15) (fun s => φ s.1 s.2.1 s.2.2.1 s.2.2.2.1 s.2.2.2.2.1 s.2.2.2.2.2.1 s.2.2.2.2.2.2.1 s.2.2.2.2.2.2.2.1 s.2.2.2.2.2.2.2.2.1 s.2.2.2.2.2.2.2.2.2.1 s.2.2.2.2.2.2.2.2.2.2.1 s.2.2.2.2.2.2.2.2.2.2.2.1 s.2.2.2.2.2.2.2.2.2.2.2.2.1 s.2.2.2.2.2.2.2.2.2.2.2.2.2.1 s.2.2.2.2.2.2.2.2.2.2.2.2.2.2.1 s.2.2.2.2.2.2.2.2.2.2.2.2.2.2.2) (fun s => L s.1 s.2.1 s.2.2.1 s.2.2.2.1 s.2.2.2.2.1 s.2.2.2.2.2.1 s.2.2.2.2.2.2.1 s.2.2.2.2.2.2.2.1 s.2.2.2.2.2.2.2.2.1 s.2.2.2.2.2.2.2.2.2.1 s.2.2.2.2.2.2.2.2.2.2.1 s.2.2.2.2.2.2.2.2.2.2.2.1 s.2.2.2.2.2.2.2.2.2.2.2.2.1 s.2.2.2.2.2.2.2.2.2.2.2.2.2.1 s.2.2.2.2.2.2.2.2.2.2.2.2.2.2.1 s.2.2.2.2.2.2.2.2.2.2.2.2.2.2.2) (fun s => Hs s.1 s.2.1 s.2.2.1 s.2.2.2.1 s.2.2.2.2.1 s.2.2.2.2.2.1 s.2.2.2.2.2.2.1 s.2.2.2.2.2.2.2.1 s.2.2.2.2.2.2.2.2.1 s.2.2.2.2.2.2.2.2.2.1 s.2.2.2.2.2.2.2.2.2.2.1 s.2.2.2.2.2.2.2.2.2.2.2.1 s.2.2.2.2.2.2.2.2.2.2.2.2.1 s.2.2.2.2.2.2.2.2.2.2.2.2.2.1 s.2.2.2.2.2.2.2.2.2.2.2.2.2.2.1 s.2.2.2.2.2.2.2.2.2.2.2.2.2.2.2) (fun s => μ s.1 s.2.1 s.2.2.1 s.2.2.2.1 s.2.2.2.2.1 s.2.2.2.2.2.1 s.2.2.2.2.2.2.1 s.2.2.2.2.2.2.2.1 s.2.2.2.2.2.2.2.2.1 s.2.2.2.2.2.2.2.2.2.1 s.2.2.2.2.2.2.2.2.2.2.1 s.2.2.2.2.2.2.2.2.2.2.2.1 s.2.2.2.2.2.2.2.2.2.2.2.2.1 s.2.2.2.2.2.2.2.2.2.2.2.2.2.1 s.2.2.2.2.2.2.2.2.2.2.2.2.2.2.1 s.2.2.2.2.2.2.2.2.2.2.2.2.2.2.2) (a0, a1, a2, a3, a4, a5, a6, a7, a8, a9, a10, a11, a12, a13, a14, a15) h0 hE hH (fun s hs => T.mono (round s.1 s.2.1 s.2.2.1 s.2.2.2.1 s.2.2.2.2.1 s.2.2.2.2.2.1 s.2.2.2.2.2.2.1 s.2.2.2.2.2.2.2.1 s.2.2.2.2.2.2.2.2.1 s.2.2.2.2.2.2.2.2.2.1 s.2.2.2.2.2.2.2.2.2.2.1 s.2.2.2.2.2.2.2.2.2.2.2.1 s.2.2.2.2.2.2.2.2.2.2.2.2.1 s.2.2.2.2.2.2.2.2.2.2.2.2.2.1 s.2.2.2.2.2.2.2.2.2.2.2.2.2.2.1 s.2.2.2.2.2.2.2.2.2.2.2.2.2.2.2 hs) (fun e ac w h => by
    cases e with
    | normal => obtain ⟨b0, b1, b2, b3, b4, b5, b6, b7, b8, b9, b10, b11, b12, b13, b14, b15, h1, h2, h3, h4⟩ := h; exact ⟨⟨b0, b1, b2, b3, b4, b5, b6, b7, b8, b9, b10, b11, b12, b13, b14, b15⟩, h1, h2, h3, h4⟩
    | _ => exact h))
theorem Z41 {α0 α1 α2 α3 α4 α5 α6 α7 α8 α9 α10 α11 α12 α13 α14 α15 : Type} {φ : α0 → α1 → α2 → α3 → α4 → α5 → α6 → α7 → α8 → α9 → α10 → α11 → α12 → α13 → α14 → α15 → Prop} {L : α0 → α1 → α2 → α3 → α4 → α5 → α6 → α7 → α8 → α9 → α10 → α11 → α12 → α13 → α14 → α15 → Env} {Hs : α0 → α1 → α2 → α3 → α4 → α5 → α6 → α7 → α8 → α9 → α10 → α11 → α12 → α13 → α14 → α15 → Heap} {μ : α0 → α1 → α2 → α3 → α4 → α5 → α6 → α7 → α8 → α9 → α10 → α11 → α12 → α13 → α14 → α15 → Nat} {m : Nat} (b0 : α0) (b1 : α1) (b2 : α2) (b3 : α3) (b4 : α4) (b5 : α5) (b6 : α6) (b7 : α7) (b8 : α8) (b9 : α9) (b10 : α10) (b11 : α11) (b12 : α12) (b13 : α13) (b14 : α14) (b15 : α15) (hφ : φ b0 b1 b2 b3 b4 b5 b6 b7 b8 b9 b10 b11 b12 b13 b14 b15) (hμ : μ b0 b1 b2 b3 b4 b5 b6 b7 b8 b9 b10 b11 b12 b13 b14 b15 < m) (hL : AllF (L b0 b1 b2 b3 b4 b5 b6 b7 b8 b9 b10 b11 b12 b13 b14 b15) E) (hH : Pick (Hs b0 b1 b2 b3 b4 b5 b6 b7 b8 b9 b10 b11 b12 b13 b14 b15) H) :
    X C (Exit.then (fun ac w => ∃ (b0 : α0) (b1 : α1) (b2 : α2) (b3 : α3) (b4 : α4) (b5 : α5) (b6 : α6) (b7 : α7) (b8 : α8) (b9 : α9) (b10 : α10) (b11 : α11) (b12 : α12) (b13 : α13) (b14 : α14) (b15 : α15), φ b0 b1 b2 b3 b4 b5 b6 b7 b8 b9 b10 b11 b12 b13 b14 b15 ∧ μ b0 b1 b2 b3 b4 b5 b6 b7 b8 b9 b10 b11 b12 b13 b14 b15 < m ∧ Fits C.n C.D (L b0 b1 b2 b3 b4 b5 b6 b7 b8 b9 b10 b11 b12 b13 b14 b15) ac ∧ Inv C.w0 C.M w (Hs b0 b1 b2 b3 b4 b5 b6 b7 b8 b9 b10 b11 b12 b13 b14 b15)) Q) .normal E H := fun _ _ hf hi => ⟨b0, b1, b2, b3, b4, b5, b6, b7, b8, b9, b10, b11, b12, b13, b14, b15, hφ, hμ, hf.all hL, hi.pick hH⟩
end
end Go.Acq
namespace Go.Acq
open Go Go.RowKit
section rules
variable {C : Cx} {ops : Array Oper} {Q : Exit → Act → World → Prop} {l : List Nat} {E : Env} {H R : Heap} {i d : Nat}
def gdU (ops : Array Oper) (E : Env) : Option (Nat × Bool) → Bool
  | none => false
  | some (j, _) =>
    match ((ops[j]?).bind (·.dst)).bind (find E) with
    | some (.tuple _) => true
    | _ => false
theorem Z4m {n : Nat} {D : List Deferred} {a : Act} {o : Oper} (hf : Fits n D E a) (h : gdU ops E o.guard = true) : Region.wanted o (yielded ops a.tmps) = false := by
 unfold Region.wanted
 cases hg : o.guard with
 | none => rw [hg] at h; simp [gdU] at h
 | some jw =>
  obtain ⟨j, want⟩ := jw
  rw [hg] at h
  simp only [gdU] at h
  cases hj : (ops[j]?).bind (·.dst) with
  | none => simp [hj] at h
  | some t =>
   rw [hj, Option.bind_some] at h
   cases ht : find E t with
   | none => simp [ht] at h
   | some v =>
    rw [ht] at h
    cases v with
    | tuple xs =>
     have h3 := hf.get t _ ht
     have : yielded ops a.tmps j = none := by
      unfold yielded
      rw [hj, Option.bind_some]
      rw [Array.getD_eq_getD_getElem?] at h3
      cases hq : a.tmps[t]? with
      | none => rfl
      | some u =>
       rw [hq] at h3
       have h4 : u = .tuple xs := by simpa using h3
       rw [h4]
     simp [this]
    | _ => simp at h
theorem Vt {o : Oper} (q0_ : ops[i]? = some o ∧ gdU ops E o.guard = true ∧ o.dst = some d ∧ Nat.ble (d + 1) C.n = true) (k : TO C ops Q l ((d, undef) :: E) H) : TO C ops Q (i :: l) E H := by
 obtain ⟨ho, hg, hdst, hd⟩ := q0_
 intro a w hf hi
 have hw : Region.wanted o (yielded ops a.tmps) = false := Z4m hf hg
 simp only [wpOpsIn, ho, hw, Bool.false_eq_true, if_false]
 refine ⟨fun _ _ => trivial, ?_⟩
 rw [hdst]
 exact k _ _ (hf.put hd _) hi
end rules
end Go.Acq
namespace Go.Acq
open Go Go.RowKit
def Wf {α : Type} (q : IntKind) (f : α → Value) : Nat → List (Int × α) → List MapEntry
  | _, [] => []
  | i, x :: xs => { key := .int q x.1, val := f x.2, born := i } :: Wf q f (i + 1) xs
abbrev mapO {α : Type} (q : IntKind) (f : α → Value) (xs : List (Int × α)) : Obj := .map (Wf q f 0 xs).toArray xs.length
def Wj {α : Type} (k : Int) (v : α) : List (Int × α) → List (Int × α)
  | [] => [(k, v)]
  | x :: xs => if k = x.1 then (k, v) :: xs else x :: Wj k v xs
def Vl {α : Type} (f : α → Value) (k : Int) : Nat → List (Int × α) → Option (Nat × Value)
  | _, [] => none
  | i, x :: xs => if k = x.1 then some (i, f x.2) else Vl f k (i + 1) xs
section
variable {α : Type} {q : IntKind} {f : α → Value} {k : Int} {z v : α}
theorem Z1w : ∀ (xs : List (Int × α)) (i j : Nat), Instr.findNow (.int q) (.int q k) (Wf q f i xs) j = some (Vl f k j xs)
 | [], _, _ => rfl
 | x :: xs, i, j => by
  simp only [Wf, Instr.findNow, Instr.sameNow, if_true, Vl]
  by_cases h : k = x.1
  · rw [if_pos h, show (k == x.1) = true by simpa using h]
  ·
   rw [if_neg h, show (k == x.1) = false by simpa using h]
   exact Z1w xs (i + 1) (j + 1)
theorem Z32 : ∀ (xs : List (Int × α)) (i j : Nat), (match Vl f k j xs with
    | some (p, _) => (∃ o, (j ≤ p ∧ (Wf q f i xs)[p - j]? = some o ∧ o.key = .int q k)) ∧ (Wj k v xs).length = xs.length ∧ Wf q f i (Wj k v xs) = (Wf q f i xs).modify (p - j) (fun e => { e with key := .int q k, val := f v })
    | none => (Wj k v xs).length = xs.length + 1 ∧ Wf q f i (Wj k v xs) = Wf q f i xs ++ [{ key := .int q k, val := f v, born := i + xs.length }])
  | [], i, j => by simp [Vl, Wj, Wf]
  | x :: xs, i, j => by
    unfold Vl Wj
    by_cases h : k = x.1
    · subst h
      simp [Wf]
    · simp only [if_neg h]
      have ih := Z32 xs (i + 1) (j + 1)
      cases hf : Vl f k (j + 1) xs with
      | none =>
        rw [hf] at ih
        simp only [Wf, List.length_cons, List.cons_append] at ih ⊢
        refine ⟨by omega, ?_⟩
        rw [ih.2]
        simp; omega
      | some y =>
        rw [hf] at ih
        obtain ⟨p, u⟩ := y
        simp only at ih ⊢
        obtain ⟨⟨o, h1, h2, h3⟩, h4, h5⟩ := ih
        have e : p - j = (p - (j + 1)) + 1 := by omega
        refine ⟨⟨o, by omega, ?_, h3⟩, by simp [h4], ?_⟩
        · rw [e]; simpa [Wf] using h2
        · rw [e]; simp only [Wf, List.modify_succ_cons, h5]
end
def Ka (P : Program) (t : TypeId) : Option (IntKind × TypeId) :=
  match P.underlying t with
  | some (.map k e) => match P.underlying k with
    | some (.int q) => some (q, e)
    | _ => none
  | _ => none
theorem Z2l {P : Program} {t e : TypeId} {q : IntKind} (h : Ka P t = some (q, e)) : ∃ k, P.underlying t = some (.map k e) ∧ P.underlying k = some (.int q) := by
 unfold Ka at h
 split at h
 ·
  rename_i k e' h1
  split at h
  ·
   rename_i q' h2
   injection h with h; injection h with h3 h4
   subst h3; subst h4
   exact ⟨k, h1, h2⟩
  · cases h
 · cases h
section rules
variable {C : Cx} {ops : Array Oper} {Q : Exit → Act → World → Prop} {l : List Nat} {E : Env} {H R : Heap} {i d : Nat} {ty : TypeId} {pos : String} {af : Array Edge} {g : Option (Nat × Bool)}
variable {α : Type} {q : IntKind} {f : α → Value}
theorem Gw {P : Program} {w : World} {em : Bool} {kt : TypeId} {q : IntKind} {k : Int} (h : P.underlying kt = some (.int q)) : (Instr.checkKey em 10000 kt (.int q k)).run P w = .ok () w := by
 show (Instr.checkKey em (9999 + 1) kt (.int q k)).run P w = .ok () w
 rw [Instr.checkKey]
 simp [underlying, h]
theorem Z25 {P : Program} {w : World} {kt : TypeId} {q : IntKind} {f : α → Value} {k : Int} {xs : List (Int × α)} (h : P.underlying kt = some (.int q)) : (Instr.findKey kt (.int q k) (Wf q f 0 xs)).run P w = .ok (Vl f k 0 xs) w := by
 unfold Instr.findKey
 simp [underlying, h, Z1w]
theorem Lg {P : Program} {w : World} {b : Nat} {m : Array MapEntry} {c : Nat} (h : w.heap[b]? = some (.map m c)) : (getObj b).run P w = .ok (.map m c) w := by
 simp [getObj, Sem.run, h]
theorem Z22 {P : Program} {w : World} {b : Nat} {m : Array MapEntry} {c : Nat} (h : w.heap[b]? = some (.map m c)) (o' : Obj) : (setObj b o').run P w = .ok () (Go.ChangeMaps.setBlock w b o') := by
 simp [setObj, Sem.run, h, Go.ChangeMaps.setBlock]
theorem Z5l (q : IntKind) (k : Int) : Instr.sameBits 10000 (.int q k) (.int q k) = true := by
 show Instr.sameBits (9999 + 1) (.int q k) (.int q k) = true
 simp [Instr.sameBits]
end rules
end Go.Acq
namespace Go.Acq
open Go
structure Net where
  N : Int
  S : Int
  T : Int
  Arcs : List Arc
  deriving DecidableEq
instance : Inhabited Net := ⟨⟨default, default, default, default⟩⟩
structure Csr where
  N : Int
  S : Int
  T : Int
  First : List Int
  Head : List Int
  Rev : List Int
  Cap : List Int
  Arc : List Int
  Back : List Bool
  deriving DecidableEq
instance : Inhabited Csr := ⟨⟨default, default, default, default, default, default, default, default, default⟩⟩
def Ud (x0 n1 : Int) : Option (Int) :=
  if n1 < 1 then
  (some 0)
  else
  gd (n1 ≠ 0) <|
  gd (i64ok ((x0.tmod n1) + n1)) <|
  gd (n1 ≠ 0) <|
  some (((x0.tmod n1) + n1).tmod n1)
def Kz (n0 : Net) (a1 r6 : Int) (a0 : List Arc) (a2 a3 : Int) : Option ((List Arc × Int) ⊕ (List Arc)) :=
  Option.bind (Ud (((n0.Arcs.take (min (n0.Arcs.length : Int) a1).toNat).getD a2.toNat default).fr) (2 + r6)) fun a4 =>
  Option.bind (Ud (((n0.Arcs.take (min (n0.Arcs.length : Int) a1).toNat).getD a2.toNat default).to) (2 + r6)) fun a5 =>
  gd (apok (a0 ++ ([(Arc.mk a4 a5 (a3.tmod 1125899906842624))])).length 24) <|
  gd (i64ok (a2 + 1)) <|
  some (.inl ((a0 ++ ([(Arc.mk a4 a5 (a3.tmod 1125899906842624))])), (a2 + 1)))
def Jy (n0 : Net) (a0 r6 : Int) (a1 : List Arc) (a2 : Int) : Option ((List Arc × Int) ⊕ (List Arc)) :=
  if a2 < ((n0.Arcs.take (min (n0.Arcs.length : Int) a0).toNat).length : Int) then
  (gd (inb a2 (n0.Arcs.take (min (n0.Arcs.length : Int) a0).toNat).length) <|
  if (((n0.Arcs.take (min (n0.Arcs.length : Int) a0).toNat).getD a2.toNat default).cap) < 0 then
  (gd (i64ok ((((n0.Arcs.take (min (n0.Arcs.length : Int) a0).toNat).getD a2.toNat default).cap) + 1)) <|
  gd (i64ok (-((((n0.Arcs.take (min (n0.Arcs.length : Int) a0).toNat).getD a2.toNat default).cap) + 1))) <|
  Kz n0 a0 r6 a1 a2 (-((((n0.Arcs.take (min (n0.Arcs.length : Int) a0).toNat).getD a2.toNat default).cap) + 1)))
  else
  Kz n0 a0 r6 a1 a2 (((n0.Arcs.take (min (n0.Arcs.length : Int) a0).toNat).getD a2.toNat default).cap))
  else
  some (.inr a1)
def Ld (r6 a1 a2 : Int) (a0 : List Arc) : Option (Net) :=
  some (Net.mk (2 + r6) a1 a2 a0)
def Jo (n0 : Net) (a0 r6 a1 a2 : Int) : Option (Net) :=
  gd (0 ≤ (min (n0.Arcs.length : Int) a0) ∧ (min (n0.Arcs.length : Int) a0) ≤ (n0.Arcs.length : Int)) <|
  Option.bind (Yu (fun s => Jy n0 a0 r6 s.1 s.2) Xc ([], 0)) fun p2_0_0 => Ld r6 a1 a2 p2_0_0
def Jv (n0 : Net) (a0 a1 : Int) : Option (Net) :=
  gd (i64ok (a0 - 1)) <|
  Option.bind (Ud n0.N (a0 - 1)) fun r6 =>
  gd (i64ok (2 + r6)) <|
  Option.bind (Ud n0.S (2 + r6)) fun a2 =>
  Option.bind (Ud n0.T (2 + r6)) fun a3 =>
  if a2 = a3 then
  (gd (i64ok (a2 + 1)) <|
  gd ((2 + r6) ≠ 0) <|
  Jo n0 a1 r6 a2 ((a2 + 1).tmod (2 + r6)))
  else
  Jo n0 a1 r6 a2 a3
def Lu  : Option (Unit) :=
  some ()
def Lv  : Option (Unit) :=
  some ()
def La  : Option (Unit) :=
  Option.bind Lu fun _ =>
  Option.bind Lv fun _ =>
  some ()
def Lj (n0 : Net) : Option (Bool) :=
  if 2 ≤ n0.N then
  (some (decide (n0.N ≤ 4096)))
  else
  some false
def Le (n0 : Net) : Option (Bool) :=
  some (decide ((n0.Arcs.length : Int) ≤ 16384))
def Uq (n0 : Net) (v1 : Int) : Option (Bool) :=
  if 0 ≤ v1 then
  (some (decide (v1 < n0.N)))
  else
  some false
def Lm (n0 : Net) : Option (Bool) :=
  Option.bind (Uq n0 n0.S) fun r3 =>
  if r3 = true then
  (Option.bind (Uq n0 n0.T) fun r6 =>
  if r6 = true then
  (some (decide (n0.S ≠ n0.T)))
  else
  some false)
  else
  some false
def Gd (n0 : Net) (a1 : Arc) : Option (Bool) :=
  Option.bind (Uq n0 a1.fr) fun r5 =>
  if r5 = true then
  (Option.bind (Uq n0 a1.to) fun r8 =>
  some r8)
  else
  some false
def Lk (a0 : Arc) (c2 : Net) : Option (Bool) :=
  Option.bind (Gd c2 a0) fun r3 =>
  some (!r3)
def Gp (s0 : List Arc) (a0 : Net) (x1 : Int) : Option ((Int) ⊕ (Int ⊕ Unit)) :=
  if x1 < (s0.length : Int) then
  (gd (inb x1 s0.length) <|
  Option.bind (Lk (s0.getD x1.toNat default) a0) fun r4 =>
  if r4 = true then
  (some (.inr (.inl x1)))
  else
  gd (i64ok (x1 + 1)) <|
  some (.inl (x1 + 1)))
  else
  some (.inr (.inr ()))
def Z0b  : Option (Int) :=
  some (-1)
def Gz (s0 : List Arc) (a0 : Net) : Option (Int) :=
  Option.bind (Yu (fun s => Gp s0 a0 s) Xc 0) fun o => match o with | .inl p1_0_0 => (some p1_0_0) | .inr () => Z0b
def Ly (s0 : List Arc) (a0 : Net) : Option (Bool) :=
  Option.bind (Gz s0 a0) fun r1 =>
  some (decide (0 ≤ r1))
def Gj (n0 : Net) : Option (Bool) :=
  Option.bind (Ly n0.Arcs n0) fun r3 =>
  some (!r3)
def Lb (n0 : Net) (a1 : Arc) : Option (Bool) :=
  some (decide (0 ≤ a1.cap))
def Lh (a0 : Arc) (c2 : Net) : Option (Bool) :=
  Option.bind (Lb c2 a0) fun r3 =>
  some (!r3)
def Ge (s0 : List Arc) (a0 : Net) (x1 : Int) : Option ((Int) ⊕ (Int ⊕ Unit)) :=
  if x1 < (s0.length : Int) then
  (gd (inb x1 s0.length) <|
  Option.bind (Lh (s0.getD x1.toNat default) a0) fun r4 =>
  if r4 = true then
  (some (.inr (.inl x1)))
  else
  gd (i64ok (x1 + 1)) <|
  some (.inl (x1 + 1)))
  else
  some (.inr (.inr ()))
def Rb  : Option (Int) :=
  some (-1)
def Ln (s0 : List Arc) (a0 : Net) : Option (Int) :=
  Option.bind (Yu (fun s => Ge s0 a0 s) Xc 0) fun o => match o with | .inl p1_0_0 => (some p1_0_0) | .inr () => Rb
def Nz (s0 : List Arc) (a0 : Net) : Option (Bool) :=
  Option.bind (Ln s0 a0) fun r1 =>
  some (decide (0 ≤ r1))
def Gb (n0 : Net) : Option (Bool) :=
  Option.bind (Nz n0.Arcs n0) fun r3 =>
  some (!r3)
def Ju (n0 : Net) (a0 x4 : Int) (a1 : Bool) : Option ((Int × Int) ⊕ ((Int × Bool) ⊕ Int)) :=
  if a1 = true then
  (some (.inr (.inl (0, false))))
  else
  gd (i64ok (a0 - ((n0.Arcs.getD x4.toNat default).cap))) <|
  gd (i64ok (x4 + 1)) <|
  some (.inl ((a0 - ((n0.Arcs.getD x4.toNat default).cap)), (x4 + 1)))
def Gk (n0 : Net) (a0 x4 : Int) : Option ((Int × Int) ⊕ ((Int × Bool) ⊕ Int)) :=
  if x4 < (n0.Arcs.length : Int) then
  (gd (inb x4 n0.Arcs.length) <|
  if ((n0.Arcs.getD x4.toNat default).cap) < 0 then
  (Ju n0 a0 x4 true)
  else
  Ju n0 a0 x4 (decide (a0 < ((n0.Arcs.getD x4.toNat default).cap))))
  else
  some (.inr (.inr a0))
def Np (a0 : Int) : Option (Int × Bool) :=
  gd (i64ok (4611686018427387904 - a0)) <|
  some ((4611686018427387904 - a0), true)
def Gr (n0 : Net) : Option (Int × Bool) :=
  Option.bind (Yu (fun s => Gk n0 s.1 s.2) Xc (4611686018427387904, 0)) fun o => match o with | .inl (p1_0_0, p1_0_1) => (some (p1_0_0, p1_0_1)) | .inr p1_1_0 => (Np p1_1_0)
def Gv (n0 : Net) : Option (Bool) :=
  Option.bind (Gr n0) fun (r3, r4) =>
  some r4
def Nw  : Option (Int) :=
  some 0
def Ja (n0 : Net) : Option (Int) :=
  Option.bind La fun _ =>
  Option.bind (Lj n0) fun a0 =>
  if (!a0) = true then
  (some 10)
  else
  Option.bind (Le n0) fun a1 =>
  if (!a1) = true then
  (some 11)
  else
  Option.bind (Lm n0) fun a2 =>
  if (!a2) = true then
  (some 12)
  else
  Option.bind (Gj n0) fun a3 =>
  if (!a3) = true then
  (some 13)
  else
  Option.bind (Gb n0) fun a4 =>
  if (!a4) = true then
  (some 14)
  else
  Option.bind (Gv n0) fun a5 =>
  if (!a5) = true then
  (some 15)
  else
  Nw
end Go.Acq
namespace Go.Acq
open Go
structure Hop where
  Arc : Int
  Back : Bool
  deriving DecidableEq
instance : Inhabited Hop := ⟨⟨default, default⟩⟩
def Nr (n0 : Net) (f1 : List Int) (x7 : Int) : Option ((Int) ⊕ (Bool ⊕ Unit)) :=
  if x7 < (n0.Arcs.length : Int) then
  (gd (inb x7 n0.Arcs.length) <|
  gd (inb x7 f1.length) <|
  if (f1.getD x7.toNat 0) < 0 then
  (some (.inr (.inl false)))
  else
  gd (inb x7 f1.length) <|
  if ((n0.Arcs.getD x7.toNat default).cap) < (f1.getD x7.toNat 0) then
  (some (.inr (.inl false)))
  else
  gd (i64ok (x7 + 1)) <|
  some (.inl (x7 + 1)))
  else
  some (.inr (.inr ()))
def Ra  : Option (Bool) :=
  some true
def Z0h (n0 : Net) (f1 : List Int) : Option (Bool) :=
  Option.bind (Ja n0) fun r3 =>
  if r3 ≠ 0 then
  (some false)
  else
  if (f1.length : Int) ≠ (n0.Arcs.length : Int) then
  (some false)
  else
  Option.bind (Yu (fun s => Nr n0 f1 s) Xc 0) fun o => match o with | .inl p1_0_0 => (some p1_0_0) | .inr () => Ra
end Go.Acq
namespace Go.Acq
open Go
end Go.Acq
namespace Go.Acq
open Go
structure CyclesSearch where
  n : Net
  out : List (List Int)
  at_ : List Int
  done : List Bool
  on : List Bool
  way : List Int
  deriving DecidableEq
instance : Inhabited CyclesSearch := ⟨⟨default, default, default, default, default, default⟩⟩
def Lo (n0 : Net) (f1 : List Int) (a0 : List (List Int)) (a1 : Int) : Option ((List (List Int) × Int) ⊕ (List (List Int))) :=
  if a1 < (n0.Arcs.length : Int) then
  (gd (inb a1 n0.Arcs.length) <|
  gd (inb a1 f1.length) <|
  if 0 < (f1.getD a1.toNat 0) then
  (gd (inb ((n0.Arcs.getD a1.toNat default).fr) a0.length) <|
  gd (apok ((a0.getD ((n0.Arcs.getD a1.toNat default).fr).toNat []) ++ ([a1])).length 8) <|
  gd (i64ok (a1 + 1)) <|
  some (.inl ((a0.set ((n0.Arcs.getD a1.toNat default).fr).toNat ((a0.getD ((n0.Arcs.getD a1.toNat default).fr).toNat []) ++ ([a1]))), (a1 + 1))))
  else
  gd (i64ok (a1 + 1)) <|
  some (.inl (a0, (a1 + 1))))
  else
  some (.inr a0)
def Ru (n0 : Net) (a0 : List (List Int)) : Option (CyclesSearch) :=
  some (CyclesSearch.mk n0 a0 (List.replicate n0.N.toNat (0 : Int)) (List.replicate n0.N.toNat (false : Bool)) (List.replicate n0.N.toNat (false : Bool)) ([]))
def Z0z (n0 : Net) (f1 : List Int) : Option (CyclesSearch) :=
  gd (mkok n0.N) <|
  gd (mkok n0.N) <|
  gd (mkok n0.N) <|
  gd (mkok n0.N) <|
  Option.bind (Yu (fun s => Lo n0 f1 s.1 s.2) Xc ((List.replicate n0.N.toNat ([] : List Int)), 0)) fun p1_0_0 => Ru n0 p1_0_0
def Ni (x0 : Int) : Option (Bool) :=
  some (decide (x0 ≠ x0))
def Z07 (x0 y1 : Int) : Option (Bool) :=
  Option.bind (Ni x0) fun r1 =>
  if r1 = true then
  (Option.bind (Ni y1) fun r4 =>
  if (!r4) = true then
  (some true)
  else
  some (decide (x0 < y1)))
  else
  some (decide (x0 < y1))
def Nx (x0 : Int) : Option (Bool) :=
  some (decide (x0 ≠ x0))
def Gx (x0 : List Int) (a0 i1 j2 : Int) : Option ((Int × Int) ⊕ (Int)) :=
  if i1 < j2 then
  (gd (i64ok (i1 + j2)) <|
  gd (u64ok (i1 + j2)) <|
  gd (i64ok (Int.fdiv (i1 + j2) (2 ^ 1))) <|
  gd (inb (Int.fdiv (i1 + j2) (2 ^ 1)) x0.length) <|
  Option.bind (Z07 (x0.getD (Int.fdiv (i1 + j2) (2 ^ 1)).toNat 0) a0) fun r8 =>
  if r8 = true then
  (gd (i64ok ((Int.fdiv (i1 + j2) (2 ^ 1)) + 1)) <|
  some (.inl (((Int.fdiv (i1 + j2) (2 ^ 1)) + 1), j2)))
  else
  some (.inl (i1, (Int.fdiv (i1 + j2) (2 ^ 1)))))
  else
  some (.inr i1)
def Z04 (x0 : List Int) (a0 a1 : Int) : Option (Int × Bool) :=
  if a1 < (x0.length : Int) then
  (gd (inb a1 x0.length) <|
  if (x0.getD a1.toNat 0) = a0 then
  (some (a1, true))
  else
  gd (inb a1 x0.length) <|
  Option.bind (Nx (x0.getD a1.toNat 0)) fun a2 =>
  if a2 = true then
  (Option.bind (Nx a0) fun a3 =>
  some (a1, a3))
  else
  some (a1, false))
  else
  some (a1, false)
def Lz (x0 : List Int) (a0 : Int) : Option (Int × Bool) :=
  Option.bind (Yu (fun s => Gx x0 a0 s.1 s.2) Xc (0, (x0.length : Int))) fun p1_0_0 => Z04 x0 a0 p1_0_0
def Z0c (xs : List Int) (i : Int) (vs : List Int) : Option (List Int) :=
  gd (0 ≤ i ∧ i ≤ (xs.length : Int) ∧ 0 < vs.length ∧ apok (xs ++ vs).length 8) <| some (xs.take i.toNat ++ vs ++ xs.drop i.toNat)
def Nb (n0 : Net) (r6 : CyclesSearch) (a2 : Int) (a0 : List Int) (a1 : Int) : Option ((List Int × Int) ⊕ (List Int)) :=
  if a1 < ((r6.out.getD a2.toNat []).length : Int) then
  (gd (inb a1 (r6.out.getD a2.toNat []).length) <|
  gd (inb ((r6.out.getD a2.toNat []).getD a1.toNat 0) n0.Arcs.length) <|
  gd (inb ((n0.Arcs.getD ((r6.out.getD a2.toNat []).getD a1.toNat 0).toNat default).to) a0.length) <|
  gd (i64ok ((a0.getD ((n0.Arcs.getD ((r6.out.getD a2.toNat []).getD a1.toNat 0).toNat default).to).toNat 0) + 1)) <|
  gd (inb ((n0.Arcs.getD ((r6.out.getD a2.toNat []).getD a1.toNat 0).toNat default).to) a0.length) <|
  gd (i64ok (a1 + 1)) <|
  some (.inl ((a0.set ((n0.Arcs.getD ((r6.out.getD a2.toNat []).getD a1.toNat 0).toNat default).to).toNat ((a0.getD ((n0.Arcs.getD ((r6.out.getD a2.toNat []).getD a1.toNat 0).toNat default).to).toNat 0) + 1)), (a1 + 1))))
  else
  some (.inr a0)
def Z0s (a1 : Int) (a0 : List Int) : Option ((List Int × Int) ⊕ (List Int)) :=
  gd (i64ok (a1 + 1)) <|
  some (.inl (a0, (a1 + 1)))
def Ll (n0 : Net) (r6 : CyclesSearch) (a0 : List Int) (a1 : Int) : Option ((List Int × Int) ⊕ (List Int)) :=
  if a1 < (r6.out.length : Int) then
  (gd (inb a1 r6.out.length) <|
  Option.bind (Yu (fun s => Nb n0 r6 a1 s.1 s.2) Xc (a0, 0)) fun p2_0_0 => Z0s a1 p2_0_0)
  else
  some (.inr a0)
def Na (a2 a0 : List Int) (a1 : Int) : Option ((List Int × Int) ⊕ (List Int)) :=
  if a1 < (a2.length : Int) then
  (gd (inb a1 a2.length) <|
  if (a2.getD a1.toNat 0) = 0 then
  (gd (apok (a0 ++ ([a1])).length 8) <|
  gd (i64ok (a1 + 1)) <|
  some (.inl ((a0 ++ ([a1])), (a1 + 1))))
  else
  gd (i64ok (a1 + 1)) <|
  some (.inl (a0, (a1 + 1))))
  else
  some (.inr a0)
def Lq (n0 : Net) (r6 : CyclesSearch) (a4 a0 a2 a3 : List Int) (a1 : Int) : Option ((List Int × List Int × Int) ⊕ (List Int × List Int × List Int)) :=
  if a1 < ((r6.out.getD (a0.getD (0 : Int).toNat 0).toNat []).length : Int) then
  (gd (inb a1 (r6.out.getD (a0.getD (0 : Int).toNat 0).toNat []).length) <|
  gd (inb ((r6.out.getD (a0.getD (0 : Int).toNat 0).toNat []).getD a1.toNat 0) n0.Arcs.length) <|
  gd (inb ((n0.Arcs.getD ((r6.out.getD (a0.getD (0 : Int).toNat 0).toNat []).getD a1.toNat 0).toNat default).to) a2.length) <|
  gd (i64ok ((a2.getD ((n0.Arcs.getD ((r6.out.getD (a0.getD (0 : Int).toNat 0).toNat []).getD a1.toNat 0).toNat default).to).toNat 0) - 1)) <|
  gd (inb ((n0.Arcs.getD ((r6.out.getD (a0.getD (0 : Int).toNat 0).toNat []).getD a1.toNat 0).toNat default).to) a2.length) <|
  gd (inb ((n0.Arcs.getD ((r6.out.getD (a0.getD (0 : Int).toNat 0).toNat []).getD a1.toNat 0).toNat default).to) (a2.set ((n0.Arcs.getD ((r6.out.getD (a0.getD (0 : Int).toNat 0).toNat []).getD a1.toNat 0).toNat default).to).toNat ((a2.getD ((n0.Arcs.getD ((r6.out.getD (a0.getD (0 : Int).toNat 0).toNat []).getD a1.toNat 0).toNat default).to).toNat 0) - 1)).length) <|
  if ((a2.set ((n0.Arcs.getD ((r6.out.getD (a0.getD (0 : Int).toNat 0).toNat []).getD a1.toNat 0).toNat default).to).toNat ((a2.getD ((n0.Arcs.getD ((r6.out.getD (a0.getD (0 : Int).toNat 0).toNat []).getD a1.toNat 0).toNat default).to).toNat 0) - 1)).getD ((n0.Arcs.getD ((r6.out.getD (a0.getD (0 : Int).toNat 0).toNat []).getD a1.toNat 0).toNat default).to).toNat 0) = 0 then
  (Option.bind (Lz a3 ((n0.Arcs.getD ((r6.out.getD (a0.getD (0 : Int).toNat 0).toNat []).getD a1.toNat 0).toNat default).to)) fun (a5, a7) =>
  Option.bind (Z0c a3 a5 ([(n0.Arcs.getD ((r6.out.getD (a0.getD (0 : Int).toNat 0).toNat []).getD a1.toNat 0).toNat default).to])) fun a6 =>
  gd (i64ok (a1 + 1)) <|
  some (.inl ((a2.set ((n0.Arcs.getD ((r6.out.getD (a0.getD (0 : Int).toNat 0).toNat []).getD a1.toNat 0).toNat default).to).toNat ((a2.getD ((n0.Arcs.getD ((r6.out.getD (a0.getD (0 : Int).toNat 0).toNat []).getD a1.toNat 0).toNat default).to).toNat 0) - 1)), a6, (a1 + 1))))
  else
  gd (i64ok (a1 + 1)) <|
  some (.inl ((a2.set ((n0.Arcs.getD ((r6.out.getD (a0.getD (0 : Int).toNat 0).toNat []).getD a1.toNat 0).toNat default).to).toNat ((a2.getD ((n0.Arcs.getD ((r6.out.getD (a0.getD (0 : Int).toNat 0).toNat []).getD a1.toNat 0).toNat default).to).toNat 0) - 1)), a3, (a1 + 1))))
  else
  some (.inr (a2, (a4 ++ ([(a0.getD (0 : Int).toNat 0)])), a3))
def Gu (n0 : Net) (r6 : CyclesSearch) (a2 a1 a0 : List Int) : Option ((List Int × List Int × List Int) ⊕ (List Int)) :=
  if 0 < (a0.length : Int) then
  (gd (inb 0 a0.length) <|
  gd (0 ≤ (1 : Int) ∧ (1 : Int) ≤ (a0.length : Int)) <|
  gd (apok (a1 ++ ([(a0.getD (0 : Int).toNat 0)])).length 8) <|
  gd (inb (a0.getD (0 : Int).toNat 0) r6.out.length) <|
  Option.bind (Yu (fun s => Lq n0 r6 a1 a0 s.1 s.2.1 s.2.2) Xc (a2, (a0.drop (1 : Int).toNat), 0)) fun (p8_0_0, p8_0_1, p8_0_2) => some (.inl (p8_0_0, p8_0_1, p8_0_2)))
  else
  some (.inr a1)
def Rs (n0 : Net) (a0 : List Int) : Option (List Int × Bool) :=
  if (a0.length : Int) < n0.N then
  (some ([], false))
  else
  some (a0, true)
def Rt (n0 : Net) (r6 : CyclesSearch) (a1 a0 : List Int) : Option (List Int × Bool) :=
  Option.bind (Yu (fun s => Gu n0 r6 s.1 s.2.1 s.2.2) Xc (a1, [], a0)) fun p7_0_0 => Rs n0 p7_0_0
def Z0m (n0 : Net) (r6 : CyclesSearch) (a0 : List Int) : Option (List Int × Bool) :=
  Option.bind (Yu (fun s => Na a0 s.1 s.2) Xc ([], 0)) fun p5_0_0 => Rt n0 r6 a0 p5_0_0
def Z1l (n0 : Net) (f1 : List Int) : Option (List Int × Bool) :=
  Option.bind (Z0h n0 f1) fun r3 =>
  if (!r3) = true then
  (some ([], false))
  else
  Option.bind (Z0z n0 f1) fun r6 =>
  gd (mkok n0.N) <|
  Option.bind (Yu (fun s => Ll n0 r6 s.1 s.2) Xc ((List.replicate n0.N.toNat (0 : Int)), 0)) fun p1_0_0 => Z0m n0 r6 p1_0_0
end Go.Acq
namespace Go.Acq
open Go
def Lc : Option (Bool) :=
  some true
end Go.Acq
namespace Go.Acq
open Go
structure Plan where
  Workers : Int
  Limit : Int
  Picks : List Int
  deriving DecidableEq
instance : Inhabited Plan := ⟨⟨default, default, default⟩⟩
structure Answer where
  Flow : List Int
  Side : List Bool
  Value : Int
  deriving DecidableEq
instance : Inhabited Answer := ⟨⟨default, default, default⟩⟩
structure Report where
  Phases : Int
  Steps : Int
  Pushes : Int
  Lifts : Int
  Repairs : Int
  Alone : Int
  deriving DecidableEq
instance : Inhabited Report := ⟨⟨default, default, default, default, default, default⟩⟩
def Gs (n0 : Net) (p1 : Plan) (x6 : Bool) : Option (Int) :=
  if x6 = true then
  (some 40)
  else
  if p1.Limit < 1 then
  (some 2)
  else
  Option.bind (Ja n0) fun r9 =>
  some r9
def Uw (n0 : Net) (p1 : Plan) : Option (Int) :=
  if p1.Workers < 1 then
  (Gs n0 p1 true)
  else
  Gs n0 p1 (decide (64 < p1.Workers))
def Jz (n0 : Net) (p1 : Plan) : Option (Answer × Report × Int) :=
  Option.bind (Uw n0 p1) fun a0 =>
  if a0 ≠ 0 then
  (some ((Answer.mk ([]) ([]) 0), (Report.mk 0 0 0 0 0 0), a0))
  else
  none
def Ke (a2 : Answer) (a1 : Report) (a3 a0 : Int) : Option (Bool) :=
  if a3 = a0 then
  (if ([a1.Phases, a1.Steps, a1.Pushes, a1.Lifts, a1.Repairs, a1.Alone] : List Int) = [0, 0, 0, 0, 0, 0] then
  (gd (i64ok ((a2.Flow.length : Int) + (a2.Side.length : Int))) <|
  if ((a2.Flow.length : Int) + (a2.Side.length : Int)) = 0 then
  (Option.bind Lc fun a4 =>
  some a4)
  else
  some false)
  else
  some false)
  else
  some false
def Gl (a0 : Int) (a1 : Answer) (a2 : Report) (a3 : Int) (a4 : Bool) : Option (Bool) :=
  if a4 = true then
  (Ke a1 a2 a3 40)
  else
  if a0 < 1 then
  (Ke a1 a2 a3 2)
  else
  Ke a1 a2 a3 12
def Uc (a0 a1 : Int) (r3 : Net) (a2 : Int) (a6 : Bool) : Option (Bool) :=
  if a6 = true then
  (Option.bind (Uw (Net.mk r3.N r3.S a2 r3.Arcs) (Plan.mk a0 a1 ([]))) fun a7 =>
  if a7 = 0 then
  (Option.bind Lc fun a8 =>
  some a8)
  else
  some false)
  else
  Option.bind (Jz (Net.mk r3.N r3.S a2 r3.Arcs) (Plan.mk a0 a1 ([]))) fun (a3, a4, a5) =>
  if a0 < 1 then
  (Gl a1 a3 a4 a5 true)
  else
  Gl a1 a3 a4 a5 (decide (64 < a0))
def Ku (a0 a1 : Int) (a2 : Bool) (r3 : Net) (a3 : Int) : Option (Bool) :=
  if 1 ≤ a0 then
  (if a0 ≤ 64 then
  (if 1 ≤ a1 then
  (Uc a0 a1 r3 a3 (!a2))
  else
  Uc a0 a1 r3 a3 false)
  else
  Uc a0 a1 r3 a3 false)
  else
  Uc a0 a1 r3 a3 false
def Nu (n0 : Net) (a0 a1 : Int) (a2 : Bool) : Option (Bool) :=
  Option.bind (Jv n0 7 14) fun r3 =>
  if a2 = true then
  (Ku a0 a1 a2 r3 r3.S)
  else
  Ku a0 a1 a2 r3 r3.T
end Go.Acq
namespace Go.Acq
open Go Go.RowKit
section rules
variable {C : Cx} {ops : Array Oper} {Q : Exit → Act → World → Prop} {l : List Nat} {E : Env} {H R : Heap} {i d : Nat} {ty : TypeId} {pos : String} {af : Array Edge} {g : Option (Nat × Bool)}
theorem Zp {c : Code} {E' : Env} (hE : AllF E' E) (h : T C c Q E' H) : T C c Q E H := T.weak h hE.sub (Ya _)
end rules
end Go.Acq
namespace Go.Acq
open Go Go.RowKit
section rules
variable {C : Cx} {ops : Array Oper} {Q : Exit → Act → World → Prop} {l : List Nat} {E : Env} {H R : Heap} {i d : Nat} {ty : TypeId} {pos : String} {af : Array Edge} {g : Option (Nat × Bool)}
end rules
end Go.Acq
namespace Go.Acq
open Go Go.RowKit Go.ChangeShapes Go.WideShapes Go.Deep Go.Joins
section
variable {H : Type} {enc : TypeId × Value → H} {P : Program} {w : World} {base : Nat} {spare : Nat → Bool} {held : Bool}
theorem Z5k {t e : TypeId} {fs : Array Field} {fuel : Nat} {cs : List Value} {x : DataW H × List MemPlace} (ht : P.underlying t = some (.slice e)) (he : P.underlying e = some (.struct fs))
    (hone : oneCellFields P fs = true) (hC : P.cellsOf e = fs.size) (h : DataW.trod enc P w base spare held fuel t cs = some x) :
    (cs = [.slice none 0 0] ∧ x = (.nil, [])) ∨
    ∃ (a : Addr) (len cap m : Nat) (D : Nat → DataW H) (Pl : Nat → List MemPlace), cs = [.slice (some a) len cap] ∧ base ≤ a.block ∧ len ≤ cap ∧ cap ≤ maxLen ∧ m = (if spare a.block then cap else len) ∧
      x = (.slice ((List.range len).map D) ((List.range (m - len)).map fun j => D (len + j)), MemPlace.row a (m * fs.size) ++ (List.range m).flatMap Pl) ∧
      ∀ i, i < m → ∃ (ys : List (DataW H × List MemPlace)) (n : Nat), D i = .agg (ys.map (·.1)) ∧ Pl i = ys.flatMap (·.2) ∧ ys.length = fs.size ∧
        ∀ (j : Nat) (f : Field), fs[j]? = some f → ∃ (v : Value) (y : DataW H × List MemPlace), w.cell? (a.add (i * fs.size + j)) = some v ∧ ys[j]? = some y ∧ DataW.trod enc P w base spare held n f.type [v] = some y := by
  rcases open_slice ht h with h0 | ⟨a, len, cap, m, n, D, Pl, hcs, hb, hl, hm, hmm, hx, hi⟩
  · exact .inl h0
  · refine .inr ⟨a, len, cap, m, D, Pl, hcs, hb, hl, hm, hmm, by rw [hC] at hx; exact hx, fun i him => ?_⟩
    obtain ⟨cs', hc, ht'⟩ := hi i him
    rw [hC] at hc
    obtain ⟨ys, n', hn', hy, hlen, hyl, hf⟩ := DataW.trod_struct he ht'
    obtain ⟨_, hcl, hat⟩ := World.cells?_some hc
    simp only [Prod.mk.injEq] at hy
    refine ⟨ys, n', hy.1, hy.2, hyl, fun j f hj => ?_⟩
    obtain ⟨ho, hk⟩ := hone_of hone j f hj
    have hjl : j < fs.size := (Array.getElem?_eq_some_iff.1 hj).1
    have hcell := hat j hjl
    have hv : cs'[j]? = some (cs'[j]'(by omega)) := List.getElem?_eq_getElem (by omega)
    have h1 := hf j f hj
    rw [ho, hk] at h1
    have hone' : (cs'.drop j).take 1 = [cs'[j]'(by omega)] := by
      rw [List.drop_eq_getElem_cons (by omega)]
      rfl
    rw [hone'] at h1
    have hys : ys[j]? = some (ys[j]'(by omega)) := List.getElem?_eq_getElem (by omega)
    refine ⟨_, _, ?_, hys, h1.trans hys⟩
    rw [← Go.Deep.add_add, hcell, hv]
end
section
variable {H : Type} {enc : TypeId × Value → H} {P : Program} {w : World} {base : Nat} {spare : Nat → Bool} {held : Bool}
def Uf (x : Int) : Prop := -9223372036854775808 ≤ x ∧ x ≤ 9223372036854775807
theorem Z0v {x : Int} (h : (Lit.int .i64 x).wf = true) : Uf x := by
 unfold Uf; simp [Lit.wf, IntKind.min, IntKind.max, IntKind.signed, IntKind.bits] at h; omega
theorem open_arcs {t e : TypeId} {fs : Array Field} {f0 f1 f2 : Field} {fuel : Nat} {v : Value} {x : DataW H × List MemPlace} (ht : P.underlying t = some (.slice e)) (he : P.underlying e = some (.struct fs)) (hfs : fs = #[f0, f1, f2])
    (hone : oneCellFields P fs = true) (hC : P.cellsOf e = fs.size) (k0 : P.underlying f0.type = some (.int .i64)) (k1 : P.underlying f1.type = some (.int .i64)) (k2 : P.underlying f2.type = some (.int .i64))
    (h : DataW.trod enc P w base spare held fuel t [v] = some x) :
    ∃ (b : Option Addr) (n c : Nat) (al : List Arc), v = .slice b n c ∧ RO w Yk 3 b n al ∧ n ≤ c ∧ n ≤ 9223372036854775807 ∧ ∀ a, a ∈ al → Uf a.fr ∧ Uf a.to ∧ Uf a.cap := by
  rcases Z5k ht he hone hC h with ⟨hcs, _⟩ | ⟨a, l, c, m, D, Pl, hcs, _, hl, hm, hmm, _, hi⟩
  · injection hcs with h1 _
    exact ⟨none, 0, 0, [], h1, Z1h w (fun _ => rfl), Nat.le_refl _, by omega, fun y hy => by cases hy⟩
  · injection hcs with h1 _
    have hlm : l ≤ m := by rw [hmm]; split <;> omega
    have key : ∀ i, i < l → ∃ q : Arc, w.cell? (a.add (i * 3 + 0)) = some (.int .i64 q.fr) ∧ w.cell? (a.add (i * 3 + 1)) = some (.int .i64 q.to) ∧ w.cell? (a.add (i * 3 + 2)) = some (.int .i64 q.cap) ∧ Uf q.fr ∧ Uf q.to ∧ Uf q.cap := by
      intro i hil
      obtain ⟨ys, n, _, _, _, hf⟩ := hi i (by omega)
      subst hfs
      obtain ⟨v0, y0, c0, _, t0⟩ := hf 0 f0 rfl
      obtain ⟨v1, y1, c1, _, t1⟩ := hf 1 f1 rfl
      obtain ⟨v2, y2, c2, _, t2⟩ := hf 2 f2 rfl
      obtain ⟨n0, e0, _, w0⟩ := DataW.trod_int k0 t0
      obtain ⟨n1, e1, _, w1⟩ := DataW.trod_int k1 t1
      obtain ⟨n2, e2, _, w2⟩ := DataW.trod_int k2 t2
      injection e0 with e0 _; injection e1 with e1 _; injection e2 with e2 _
      subst e0; subst e1; subst e2
      exact ⟨⟨n0, n1, n2⟩, c0, c1, c2, Z0v w0, Z0v w1, Z0v w2⟩
    let g : Nat → Arc := fun i => if hil : i < l then Classical.choose (key i hil) else default
    have hg : ∀ i (hil : i < l), g i = Classical.choose (key i hil) := fun i hil => by simp only [g, dif_pos hil]
    refine ⟨some a, l, c, (List.range l).map g, h1, ⟨by simp, (fun e => by cases e), arcC_len, fun o q ho hq x hx => ?_⟩, hl, by unfold maxLen at hm; omega, fun y hy => ?_⟩
    · simp only [List.length_map, List.length_range] at ho
      have hs := Classical.choose_spec (key o ho)
      rw [← hg o ho] at hs
      have hxo : x = g o := by
        rw [List.getElem?_map, List.getElem?_range ho] at hx
        simpa using hx.symm
      subst hxo
      rcases (show q = 0 ∨ q = 1 ∨ q = 2 by omega) with rfl | rfl | rfl
      · exact hs.1
      · exact hs.2.1
      · exact hs.2.2.1
    · obtain ⟨i, hil, rfl⟩ := List.mem_map.1 hy
      have hil := List.mem_range.1 hil
      have hs := Classical.choose_spec (key i hil)
      rw [← hg i hil] at hs
      exact hs.2.2.2
end
end Go.Acq
namespace Go.Acq
open Go Go.RowKit Go.ChangeShapes Go.WideShapes Go.Deep Go.Joins
theorem i64ok_wf {x : Int} (h : (Lit.int .i64 x).wf = true) : i64ok x := by simp [Lit.wf, IntKind.min, IntKind.max, IntKind.signed, IntKind.bits] at h; omega
section
variable {H : Type} {enc : TypeId × Value → H} {P : Program} {w : World} {base : Nat} {spare : Nat → Bool} {held : Bool}
end
end Go.Acq
namespace Go.Acq
open Go Go.RowKit
abbrev SM := Option Addr × Nat × Nat
def Yo (m : SM) : List Value := [.slice m.1 m.2.1 m.2.2]
structure RW {α : Type} (w : World) (M : List Nat) (f : α → List Value) (s : Nat) (base : Option Addr) (n c : Nat) (ms : List SM) (xss : List (List α)) : Prop where
  rs : RS w M Yo 1 base n c ms
  eqlen : ms.length = xss.length
  row : ∀ i, i < ms.length → RS w M f s (ms.getD i default).1 (ms.getD i default).2.1 (ms.getD i default).2.2 (xss.getD i [])
section
variable {α : Type} {w w0 : World} {M M' : List Nat} {f : α → List Value} {s n c : Nat} {base : Option Addr} {ms : List SM} {xss : List (List α)} {H Hm R : Heap}
theorem RW.len (h : RW w M f s base n c ms xss) : xss.length = n := by rw [← h.eqlen]; exact h.rs.len
theorem RW.cap (h : RW w M f s base n c ms xss) : n ≤ c := h.rs.cap
theorem RW.nil (w : World) (M : List Nat) : RW w M f s none 0 0 [] ([] : List (List α)) := ⟨RS.nil _ _ (fun _ => rfl), rfl, fun i hi => by simp at hi⟩
theorem RW.mono (h : RW w0 M f s base n c ms xss) (hi : Inv w0 M w H) : RW w [] f s base n c ms xss := ⟨h.rs.mono hi, h.eqlen, fun i hl => (h.row i hl).mono hi⟩
theorem RW.monoM (h : RW w0 M f s base n c ms xss) (hs : 0 < s) (hi : Inv w0 M w H) (hp : List.Perm H (Hm ++ R)) (hM : Hm.filterMap (·.1) = M') : RW w M' f s base n c ms xss :=
 ⟨h.rs.monoM (by decide) hi hp hM, h.eqlen, fun i hl => (h.row i hl).monoM hs hi hp hM⟩
theorem Z1c {α : Type} {xs : List α} {d : α} {i k : Nat} (h : i < k) : (xs.take k).getD i d = xs.getD i d := by
 simp [List.getD_eq_getElem?_getD, List.getElem?_take, h]
theorem Z37 {α : Type} {xs : List α} {d : α} {i k : Nat} : (xs.drop k).getD i d = xs.getD (k + i) d := by
 simp [List.getD_eq_getElem?_getD]
theorem RW.take (h : RW w M f s base n c ms xss) {p : Int} (hp : 0 ≤ p ∧ p ≤ (xss.length : Int)) : RW w M f s base p.toNat c (ms.take p.toNat) (xss.take p.toNat) :=
 ⟨h.rs.take (by rw [h.eqlen]; exact hp), by rw [List.length_take, List.length_take, h.eqlen], fun i hi => by
  rw [List.length_take] at hi
  rw [Z1c (by omega), Z1c (by omega)]; exact h.row i (by omega)⟩
theorem RW.drop (h : RW w M f s base n c ms xss) {p : Int} (hp : 0 ≤ p ∧ p ≤ (xss.length : Int)) : RW w M f s (Wx base p.toNat c 1) (n - p.toNat) (c - p.toNat) (ms.drop p.toNat) (xss.drop p.toNat) :=
 ⟨h.rs.drop (by rw [h.eqlen]; exact hp), by rw [List.length_drop, List.length_drop, h.eqlen], fun i hi => by
  rw [List.length_drop] at hi
  rw [Z37, Z37]; exact h.row _ (by omega)⟩
theorem RW.at (h : RW w M f s base n c ms xss) {p : Int} (hp : inb p xss.length) : RS w M f s (ms.getD p.toNat default).1 (ms.getD p.toNat default).2.1 (ms.getD p.toNat default).2.2 (xss.getD p.toNat []) :=
 h.row _ (by rw [h.eqlen]; exact Wv hp)
theorem RW.inb (h : RW w M f s base n c ms xss) {p : Int} (hp : inb p xss.length) : inb p ms.length := by rw [h.eqlen]; exact hp
end
section rules
variable {C : Cx} {ops : Array Oper} {Q : Exit → Act → World → Prop} {l : List Nat} {E : Env} {H R : Heap} {i d : Nat} {ty : TypeId} {pos : String} {af : Array Edge} {g : Option (Nat × Bool)}
theorem Z1b {α : Type} {f : α → List Value} {s : Nat} {t : TypeId} {x : Operand} {base : Option Addr} {n c : Nat} {p : Int} {ms : List SM} {xss : List (List α)} (hr : RW C.w0 C.M f s base n c ms xss) (hp : inb p xss.length) (q0_ : ops[i]? = some ⟨some d, .load t x, ty, pos, af, g⟩ ∧ Zg ops E g = true ∧ Nat.ble (d + 1) C.n = true ∧ ev E x = some (.pointer (some (ea base (p.toNat * 1))))) (hT : Yr C.P t = true)
    (kk : TO C ops Q l ((d, .slice (ms.getD p.toNat default).1 (ms.getD p.toNat default).2.1 (ms.getD p.toNat default).2.2) :: E) H) : TO C ops Q (i :: l) E H := have ⟨ho, hg, hd, hx⟩ := q0_;
  TO.load ho hg hd hx hT (fun w hi => by
    have := (hr.rs.ro.monoM hr.rs.far hi).at default (o := p.toNat) (c := 0) (Wv (hr.inb hp)) (by omega)
    simpa [Yo] using this) kk
end rules
open Go.ChangeShapes Go.WideShapes Go.Deep Go.Joins
section
variable {H : Type} {enc : TypeId × Value → H} {P : Program} {w : World} {base : Nat} {spare : Nat → Bool} {held : Bool}
end
end Go.Acq
namespace Go.Acq
open Go Go.RowKit
end Go.Acq
namespace Go.Acq
open Go Go.RowKit
end Go.Acq
namespace Go.Acq
open Go Go.RowKit Go.ChangeShapes Go.WideShapes Go.Deep Go.Joins
section
variable {H : Type} {enc : TypeId × Value → H} {P : Program} {w : World} {base : Nat} {spare : Nat → Bool} {held : Bool}
end
end Go.Acq
namespace Go.Acq
open Go Go.RowKit
abbrev mkD (r : Nat) : Deferred := { target := .collected r, args := #[] }
abbrev mkO : Obj := .deferred (some [])
def Lx : List Nat → Heap
  | [] => []
  | r :: ms => (some r, mkO) :: Lx ms
section
variable {w0 w w' w'' : World} {M M' : List Nat} {H H' Hm R : Heap} {b : Nat} {o o' : Obj}
theorem Pick.skip {p : Option Nat × Obj} (h : Pick H' H) : Pick H' (p :: H) := by
 obtain ⟨S, ns, hn, hS⟩ := h
 refine ⟨p :: S, ns, hn, ?_⟩
 rw [List.cons_append]
 exact (List.Perm.cons p hS).trans List.perm_middle.symm
theorem Inv.put (h : Inv w0 M w ((some b, o) :: R)) (o' : Obj) : Inv w0 M (w.putObj b o') ((some b, o') :: R) :=
 h.upd (Take.head _ _) rfl rfl rfl World.putObj_size (World.putObj_heap_same (h.lt (.head _))) (fun _ hk => World.putObj_heap_other hk)
theorem HB.monoM {cs : List Value} (h : HB w0 M b cs) (hne : cs ≠ []) (hi : Inv w0 M w H) (hp : List.Perm H (Hm ++ R)) (hM : Hm.filterMap (·.1) = M') : HB w M' b cs :=
 ⟨fun j v hj => hi.cell_old (h.has j v hj) h.far, fun hm => by
  subst hM
  obtain ⟨o, ho⟩ := Ko hm
  obtain ⟨v, cs', rfl⟩ := List.exists_cons_of_ne_nil hne
  have h0 := h.has 0 v rfl
  have hb : b < w0.heap.size := by
   unfold World.cell? at h0
   split at h0
   · rename_i he; exact (Array.getElem?_eq_some_iff.1 he).1
   · cases h0
  rcases hi.low b o ((List.Perm.mem_iff hp).2 (List.mem_append_left _ ho)) with hl | hl
  · omega
  · exact h.far hl⟩
end
section rules
variable {C : Cx} {ops : Array Oper} {Q : Exit → Act → World → Prop} {l : List Nat} {E : Env} {H R : Heap} {i d : Nat} {ty : TypeId} {pos : String} {af : Array Edge} {g : Option (Nat × Bool)}
end rules
section control
variable {C : Cx} {Q : Exit → Act → World → Prop} {E : Env} {H : Heap}
end control
section ends
variable {C : Cx} {E : Env} {H H' N : Heap}
theorem Z2j {P : Program} {fn : Func} {tmps : Array Value} {R : Ending → World → Prop} {w0 : World} {M : List Nat} : ∀ (ms : List Nat) (w : World), Inv w0 M w (Lx ms ++ H') →
    (∀ w', Inv w0 M w' H' → LeavesIn (FW none) 0 P fn tmps R [] .returning w') → LeavesInM (FW none) 0 P fn tmps R (ms.map mkD) .returning w
  | [], w, hi, h => h w hi
  | r :: ms, w, hi, h => by
    refine ⟨by simp, .inl ⟨r, _, rfl, run_takeDeferred (hi.own r _ (.head _)), Z2j ms _ ?_ h⟩⟩
    exact (Inv.put hi (.deferred none)).pick (Pick.skip (Ya _))
theorem X.retM {fn : Func} {rs : List ResultVar} {vs : List Value} {v : Value} {w0 : World} {M : List Nat} {Post : Value → Heap → Prop} (ms : List Nat) (hρ : C.ρ = none) (hw : C.w0 = w0) (hMM : C.M = M) (hD : C.D = ms.map mkD) (hfn : fn.results.toList = rs)
    (hH : Pick (Lx ms ++ H') H) (hr : ∀ (j : Nat) r u, rs[j]? = some r → vs[j]? = some u → Res { C with D := [] } E H' r u) (q0_ : rs.length = vs.length ∧ v = Jq vs)
    (hN : Pick N H') (hP : Post v N) : Acq.X C (bodyPostM (FW none) 0 C.P fn (Vw w0 M Post)) .ret E H := by
  obtain ⟨hl, hv⟩ := q0_
  intro a w hf hi
  show LeavesInM (FW none) 0 C.P fn a.tmps (Vw w0 M Post) a.defers .returning w
  rw [hf.defers, hD]
  refine Z2j ms w (hi.pick hH) fun w' hi' => ?_
  have hx := X.ret (C := { C with D := [] }) (fn := fn) (Post := Post) hw hMM rfl hfn hr ⟨hl, hv⟩ hN hP { a with defers := [] } w' ⟨hf.size, rfl, hf.get⟩ hi'
  exact hx.2
theorem X.retM3 {fn : Func} {r r' r'' : ResultVar} {v v' v'' : Value} {w0 : World} {M : List Nat} {Post : Value → Heap → Prop} (ms : List Nat) (q0_ : C.ρ = none ∧ C.w0 = w0 ∧ C.M = M ∧ C.D = ms.map mkD ∧ fn.results.toList = [r, r', r'']) (hH : Pick (Lx ms ++ H') H) (hr : Res { C with D := [] } E H' r v) (hr' : Res { C with D := [] } E H' r' v') (hr'' : Res { C with D := [] } E H' r'' v'') (hN : Pick N H') (hP : Post (.tuple #[v, v', v'']) N) :
    Acq.X C (bodyPostM (FW none) 0 C.P fn (Vw w0 M Post)) .ret E H := have ⟨hρ, hw, hMM, hD, hfn⟩ := q0_;
  X.retM (vs := [v, v', v'']) ms hρ hw hMM hD hfn hH (fun j q u h1 h2 => by
    match j with
    | 0 => simp at h1 h2; subst h1; subst h2; exact hr
    | 1 => simp at h1 h2; subst h1; subst h2; exact hr'
    | 2 => simp at h1 h2; subst h1; subst h2; exact hr''
    | j + 3 => simp at h1) rr2 hN hP
theorem Z69 {P : Program} {f : FuncId} {fn : Func} {c : Code} {vs : List Value} {w : World} {M : List Nat} {H : Heap} {Post : Value → Heap → Prop}
    (hf : P.funcs[f]? = some fn) (hb : fn.body = some c) (hn : Nat.ble vs.length fn.ntmps = true) (hi : Inv w M w H)
    (h : T ⟨P, none, fn.ntmps, [], w, M⟩ c (bodyPostM (FW none) 0 P fn (Vw w M Post)) (Jh 0 vs) H) : Fnc P f vs.toArray w M Post := by
  have hn' := Nat.le_of_ble_eq_true hn
  refine callsIn_FW (ρ := none) (n := 0) |>.1 (callsIn_of_wp_marks hf hb trivial ?_ rfl)
  refine h _ w ⟨by simp; omega, rfl, fun t v hv => ?_⟩ hi
  obtain ⟨_, h2⟩ := Ry vs 0 t v hv
  rw [Nat.sub_zero] at h2
  have hlt := (List.getElem?_eq_some_iff.1 h2).1
  simp only [Array.getD_eq_getD_getElem?]
  rw [Array.getElem?_append_left (by simpa using hlt)]
  simp [h2]
end ends
end Go.Acq
namespace Go.Acq
open Go Go.RowKit
theorem Z1u {C : Cx} {Q : Exit → Act → World → Prop} {e : Exit} {E : Env} {H H' : Heap} (h : H' = H) (k : X C Q e E H) : X C Q e E H' := by rw [h]; exact k
theorem T.reheap {C : Cx} {Q : Exit → Act → World → Prop} {c : Code} {E : Env} {H H' : Heap} (h : H' = H) (k : T C c Q E H) : T C c Q E H' := by rw [h]; exact k
end Go.Acq
namespace Go.Acq
open Go Go.RowKit
end Go.Acq
namespace Go.Acq
open Go Go.RowKit
section
variable {C : Cx} {ops : Array Oper} {Q : Exit → Act → World → Prop} {l l2 : List Nat} {E E' : Env} {H H' : Heap}
end
end Go.Acq
