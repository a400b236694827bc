/- The layer of triples: a symbolic state (slots, owned blocks) over the fenced walk; its rules for control. -/
import Derived.WalkKit
import Derived.RangeFuncIn
import Derived.CallsIn
import Derived.Deep.AppendSrc
import Derived.Deep.MidRow
import Derived.Great.BuildSlice
import Derived.KernelRfl
namespace Go.Acq
open Go Go.RowKit
abbrev Env := List (Nat × Value)
abbrev Heap := List (Option Nat × Obj)

def find : Env → Nat → Option Value
  | [], _ => none
  | (d, v) :: E, t => cond (Nat.beq d t) (some v) (find E t)

def ev (E : Env) : Operand → Option Value
  | .tmp t => find E t
  | .const v => some v
  | .global g => some (.pointer (some ⟨g, 0, none⟩))
  | .func f => some (.func (.func f) #[] #[])

/-- the frame's slots hold what the environment says -/
structure Fits (n : Nat) (D : List Deferred) (E : Env) (a : Act) : Prop where
  size : a.tmps.size = n
  defers : a.defers = D
  get : ∀ t v, find E t = some v → a.tmps.getD t undef = v

section fits
variable {n : Nat} {D : List Deferred} {E E' : Env} {a : Act} {x : Operand} {v : Value} {d : Nat}
theorem Fits.ev (h : Fits n D E a) (hx : ev E x = some v) : a.eval x = v := by
  cases x with
  | tmp t => exact h.get t v hx
  | const u => simpa [Acq.ev, Act.eval] using hx
  | global g => simpa [Acq.ev, Act.eval] using hx
  | func f => simpa [Acq.ev, Act.eval] using hx

theorem find_cons (d t : Nat) (v : Value) (E : Env) : find ((d, v) :: E) t = if d = t then some v else find E t := by
  simp only [find]
  by_cases h : d = t
  · subst h; simp
  · rw [if_neg h]
    have : Nat.beq d t = false := by
      cases hb : Nat.beq d t
      · rfl
      · exact absurd (Nat.eq_of_beq_eq_true hb) h
    simp [this]

theorem Fits.put (h : Fits n D E a) (hd : Nat.ble (d + 1) n = true) (v : Value) : Fits n D ((d, v) :: E) (a.put (some d) v) := by
  have hdn : d < n := Nat.le_of_ble_eq_true hd
  refine ⟨by simpa [Act.put] using h.size, h.defers, fun t u hu => ?_⟩
  rw [find_cons] at hu
  by_cases e : d = t
  · subst e
    rw [if_pos rfl] at hu
    simp only [Act.put, Array.getD_eq_getD_getElem?]
    have : d < a.tmps.size := by rw [h.size]; exact hdn
    simp [this]
    simpa using hu
  · rw [if_neg e] at hu
    have := h.get t u hu
    simp only [Act.put, Array.getD_eq_getD_getElem?] at *
    simp [e, this]

theorem Fits.putNone (h : Fits n D E a) (v : Value) : Fits n D E (a.put none v) := h
theorem Fits.weak (h : Fits n D E a) (hs : ∀ t v, find E' t = some v → find E t = some v) : Fits n D E' a := ⟨h.size, h.defers, fun t v hv => h.get t v (hs t v hv)⟩
end fits
/-- all entries of the first list stand in the second -/
def AllF : Env → Env → Prop
  | [], _ => True
  | (t, v) :: L, E => find E t = some v ∧ AllF L E

theorem AllF.sub : ∀ {L E : Env}, AllF L E → ∀ t v, find L t = some v → find E t = some v
  | [], _, _, t, v, h => by simp [find] at h
  | (d, u) :: L, E, ⟨h1, h2⟩, t, v, h => by
    rw [find_cons] at h
    by_cases e : d = t
    · subst e; rw [if_pos rfl] at h; rw [h1]; exact h
    · rw [if_neg e] at h; exact AllF.sub h2 t v h

/-- the environment without the slots D, each slot once -/
def wo : List Nat → Env → Env
  | _, [] => []
  | D, (t, v) :: E => cond (D.any (Nat.beq t)) (wo D E) ((t, v) :: wo (t :: D) E)

theorem any_beq {t : Nat} : ∀ {D : List Nat}, D.any (Nat.beq t) = true ↔ t ∈ D
  | [] => by simp
  | d :: D => by
    simp only [List.any_cons, Bool.or_eq_true, List.mem_cons, any_beq]
    constructor
    · rintro (h | h)
      · exact .inl (Nat.eq_of_beq_eq_true h)
      · exact .inr h
    · rintro (rfl | h)
      · exact .inl (by simp)
      · exact .inr h

theorem find_wo : ∀ (E : Env) (D : List Nat) (t : Nat) (v : Value), find (wo D E) t = some v → t ∉ D ∧ find E t = some v
  | [], D, t, v, h => by simp [wo, find] at h
  | (d, u) :: E, D, t, v, h => by
    simp only [wo] at h
    cases hb : D.any (Nat.beq d) with
    | true =>
      rw [hb] at h
      obtain ⟨h1, h2⟩ := find_wo E D t v h
      refine ⟨h1, ?_⟩
      rw [find_cons, if_neg]
      · exact h2
      · rintro rfl; exact h1 (any_beq.1 hb)
    | false =>
      rw [hb] at h
      simp only [cond_false] at h
      rw [find_cons] at h
      by_cases e : d = t
      · subst e
        rw [if_pos rfl] at h
        refine ⟨fun hm => ?_, by rw [find_cons, if_pos rfl]; exact h⟩
        rw [any_beq.2 hm] at hb; cases hb
      · rw [if_neg e] at h
        obtain ⟨h1, h2⟩ := find_wo E (d :: D) t v h
        exact ⟨fun hm => h1 (.tail _ hm), by rw [find_cons, if_neg e]; exact h2⟩

theorem find_append (L E : Env) (t : Nat) : find (L ++ E) t = (find L t).or (find E t) := by
  induction L with
  | nil => simp [find]
  | cons p L ih =>
    obtain ⟨d, v⟩ := p
    rw [List.cons_append, find_cons, find_cons]
    split
    · simp
    · exact ih

/-- the world against the one that the call began in: what was there stays, but for the blocks M; the blocks H are ours (an entry without a block says nothing) -/
structure Inv (w0 : World) (M : List Nat) (w : World) (H : Heap) : Prop where
  os : w.os = w0.os
  tape : w.tape = w0.tape
  output : w.output = w0.output
  size : w0.heap.size ≤ w.heap.size
  keep : ∀ b, b < w0.heap.size → b ∉ M → w.heap[b]? = w0.heap[b]?
  own : ∀ b o, (some b, o) ∈ H → w.heap[b]? = some o
  low : ∀ b o, (some b, o) ∈ H → w0.heap.size ≤ b ∨ b ∈ M
  apart : (H.filterMap (·.1)).Nodup

section inv
variable {w0 w w' w'' : World} {M : List Nat} {H H' N R : Heap} {b : Nat} {o o' : Obj}

theorem Inv.below (h : Inv w0 [] w H) : Below w0.heap.size w0 w := ⟨h.os, h.tape, h.output, h.size, fun k hk => h.keep k hk (by simp)⟩
theorem Inv.refl (w : World) : Inv w [] w [] := ⟨rfl, rfl, rfl, Nat.le_refl _, fun _ _ _ => rfl, by simp, by simp, by simp⟩

theorem mem_ids {b : Nat} {o : Obj} {H : Heap} (h : (some b, o) ∈ H) : b ∈ H.filterMap (·.1) := List.mem_filterMap.2 ⟨_, h, rfl⟩
theorem of_mem_ids {b : Nat} {H : Heap} (h : b ∈ H.filterMap (·.1)) : ∃ o, (some b, o) ∈ H := by
  obtain ⟨⟨x, o⟩, hm, hx⟩ := List.mem_filterMap.1 h
  simp only at hx
  subst hx
  exact ⟨o, hm⟩

theorem Inv.lt (h : Inv w0 M w H) (hp : (some b, o) ∈ H) : b < w.heap.size := (Array.getElem?_eq_some_iff.1 (h.own b o hp)).1

theorem Inv.ofHeap (h : Inv w0 M w H) (hh : w'.heap = w.heap) (h1 : w'.os = w.os) (h2 : w'.tape = w.tape) (h3 : w'.output = w.output) : Inv w0 M w' H :=
  ⟨h1.trans h.os, h2.trans h.tape, h3.trans h.output, by rw [hh]; exact h.size, by rw [hh]; exact h.keep, by rw [hh]; exact h.own, h.low, h.apart⟩

theorem Inv.drew (h : Inv w0 M w H) : Inv w0 M w.drew H := h.ofHeap rfl rfl rfl rfl

theorem Inv.alloc (h : Inv w0 M w H) (o : Obj) : Inv w0 M (w.alloc o) ((some w.heap.size, o) :: H) := by
  have hsz : (w.alloc o).heap.size = w.heap.size + 1 := World.size_alloc ..
  refine ⟨h.os, h.tape, h.output, by rw [hsz]; have := h.size; omega, fun b hb hm => ?_, fun b o' hp => ?_, fun b o' hp => ?_, ?_⟩
  · rw [Below.heap_alloc _ _ _ (by have := h.size; omega)]; exact h.keep b hb hm
  · rcases List.mem_cons.1 hp with e | hp
    · injection e with e1 e2
      injection e1 with e1
      subst e1; subst e2
      show (w.heap.push o')[w.heap.size]? = some o'
      simp
    · rw [Below.heap_alloc _ _ _ (h.lt hp)]; exact h.own b o' hp
  · rcases List.mem_cons.1 hp with e | hp
    · injection e with e1 e2
      injection e1 with e1
      subst e1
      exact .inl h.size
    · exact h.low b o' hp
  · simp only [List.filterMap_cons, List.nodup_cons]
    refine ⟨fun hm => ?_, h.apart⟩
    obtain ⟨o', hm⟩ := of_mem_ids hm
    have := h.lt hm
    omega

/-- an entry that says nothing -/
theorem Inv.addNone (h : Inv w0 M w H) (o : Obj) : Inv w0 M w ((none, o) :: H) :=
  ⟨h.os, h.tape, h.output, h.size, h.keep, fun b o' hp => h.own b o' (by simpa using hp), fun b o' hp => h.low b o' (by simpa using hp), by simpa using h.apart⟩

/-- H is made of p and of R -/
def Take (p : Option Nat × Obj) (H R : Heap) : Prop := List.Perm H (p :: R)
theorem Take.head (p : Option Nat × Obj) (H : Heap) : Take p (p :: H) H := List.Perm.refl _
theorem Take.tail {p q : Option Nat × Obj} (h : Take p H R) : Take p (q :: H) (q :: R) :=
  (List.Perm.cons q h).trans (List.Perm.swap p q R)
theorem Take.mem {p : Option Nat × Obj} (h : Take p H R) : p ∈ H := (List.Perm.mem_iff h).2 (.head _)

/-- H' can be picked out of H (entries that say nothing come for nothing) -/
def Pick (H' H : Heap) : Prop := ∃ R ns : Heap, (∀ x, x ∈ ns → x.1 = none) ∧ List.Perm (H ++ ns) (H' ++ R)
theorem Pick.nil : Pick [] H := ⟨H, [], by simp, by simp⟩
theorem Pick.refl (H : Heap) : Pick H H := ⟨[], [], by simp, by simp⟩
theorem Pick.cons {p : Option Nat × Obj} (h : Take p H R) (hp : Pick H' R) : Pick (p :: H') H := by
  obtain ⟨S, ns, hn, hS⟩ := hp
  exact ⟨S, ns, hn, (List.Perm.append_right ns h).trans (List.Perm.cons p hS)⟩
theorem Pick.none {o : Obj} (hp : Pick H' H) : Pick ((none, o) :: H') H := by
  obtain ⟨S, ns, hn, hS⟩ := hp
  refine ⟨S, (Option.none, o) :: ns, fun x hx => ?_, ?_⟩
  · rcases List.mem_cons.1 hx with rfl | hx
    · rfl
    · exact hn x hx
  · exact List.perm_middle.trans (List.Perm.cons _ hS)
theorem Pick.of_perm {S : Heap} (h : List.Perm H (H' ++ S)) : Pick H' H := ⟨S, [], by simp, by simpa using h⟩

theorem Inv.perm (h : Inv w0 M w H) (hp : List.Perm H H') : Inv w0 M w H' :=
  ⟨h.os, h.tape, h.output, h.size, h.keep, fun b o hm => h.own b o ((List.Perm.mem_iff hp).2 hm), fun b o hm => h.low b o ((List.Perm.mem_iff hp).2 hm), (List.Perm.nodup_iff (hp.filterMap _)).1 h.apart⟩

theorem Inv.left (h : Inv w0 M w (H ++ R)) : Inv w0 M w H :=
  ⟨h.os, h.tape, h.output, h.size, h.keep, fun b o hm => h.own b o (List.mem_append_left _ hm), fun b o hm => h.low b o (List.mem_append_left _ hm), by
    have := h.apart
    rw [List.filterMap_append] at this
    exact (List.nodup_append.1 this).1⟩

theorem Inv.nones (h : Inv w0 M w H) : ∀ {ns : Heap}, (∀ x, x ∈ ns → x.1 = none) → Inv w0 M w (H ++ ns)
  | [], _ => by simpa using h
  | (x, o) :: ns, hn => by
    have h1 := hn (x, o) (.head _)
    simp only at h1
    subst h1
    exact ((Inv.nones h (ns := ns) (fun y hy => hn y (.tail _ hy))).addNone o).perm List.perm_middle.symm
theorem Inv.pick (h : Inv w0 M w H) (hp : Pick H' H) : Inv w0 M w H' := by
  obtain ⟨R, ns, hn, hR⟩ := hp
  exact ((h.nones hn).perm hR).left

/-- one owned block has turned -/
theorem Inv.upd (h : Inv w0 M w H) (ht : Take (some b, o) H R) (h1 : w'.os = w.os) (h2 : w'.tape = w.tape) (h3 : w'.output = w.output) (hs : w'.heap.size = w.heap.size)
    (hb : w'.heap[b]? = some o') (ho : ∀ k, k ≠ b → w'.heap[k]? = w.heap[k]?) : Inv w0 M w' ((some b, o') :: R) := by
  have g := h.perm ht
  have ga := g.apart
  simp only [List.filterMap_cons, List.nodup_cons] at ga
  refine ⟨h1.trans h.os, h2.trans h.tape, h3.trans h.output, by rw [hs]; exact h.size, fun k hk hm => ?_, fun k p hp => ?_, fun k p hp => ?_, ?_⟩
  · rw [ho k ?_]
    · exact h.keep k hk hm
    · rintro rfl
      rcases g.low k o (.head _) with hl | hl
      · omega
      · exact hm hl
  · rcases List.mem_cons.1 hp with e | hp
    · injection e with e1 e2
      injection e1 with e1
      subst e1; subst e2
      exact hb
    · rw [ho k ?_]
      · exact g.own k p (.tail _ hp)
      · intro e
        exact ga.1 (e ▸ mem_ids hp)
  · rcases List.mem_cons.1 hp with e | hp
    · injection e with e1 e2
      injection e1 with e1
      subst e1
      exact g.low k o (.head _)
    · exact g.low k p (.tail _ hp)
  · simpa using ga

/-- behind a call that keeps all that was there, but for the blocks of Hm: its blocks join ours -/
theorem Inv.join {M' : List Nat} {Hm : Heap} (h : Inv w0 M w H) (hH : List.Perm H (Hm ++ R)) (hM : ∀ m, m ∈ M' → m ∈ Hm.filterMap (·.1)) (g : Inv w M' w' N) : Inv w0 M w' (N ++ R) := by
  have hp := h.perm hH
  have ha := hp.apart
  rw [List.filterMap_append] at ha
  obtain ⟨_, ha2, ha3⟩ := List.nodup_append.1 ha
  have hlowM : ∀ m, m ∈ M' → w0.heap.size ≤ m ∨ m ∈ M := fun m hm => by
    obtain ⟨o, hpm⟩ := of_mem_ids (hM m hm)
    exact hp.low m o (List.mem_append_left _ hpm)
  refine ⟨g.os.trans h.os, g.tape.trans h.tape, g.output.trans h.output, Nat.le_trans h.size g.size, fun k hk hm => ?_, fun k p hpm => ?_, fun k p hpm => ?_, ?_⟩
  · rw [g.keep k (Nat.lt_of_lt_of_le hk h.size) ?_]
    · exact h.keep k hk hm
    · intro hm'
      rcases hlowM k hm' with hl | hl
      · omega
      · exact hm hl
  · rcases List.mem_append.1 hpm with hpm | hpm
    · exact g.own k p hpm
    · rw [g.keep k (hp.lt (List.mem_append_right _ hpm)) ?_]
      · exact hp.own k p (List.mem_append_right _ hpm)
      · intro hm'
        exact ha3 _ (hM _ hm') _ (mem_ids hpm) rfl
  · rcases List.mem_append.1 hpm with hpm | hpm
    · rcases g.low k p hpm with hl | hl
      · exact .inl (Nat.le_trans h.size hl)
      · exact hlowM _ hl
    · exact hp.low k p (List.mem_append_right _ hpm)
  · rw [List.filterMap_append, List.nodup_append]
    refine ⟨g.apart, ha2, fun x hx y hy e => ?_⟩
    subst e
    obtain ⟨o1, hpN⟩ := of_mem_ids hx
    obtain ⟨o2, hqR⟩ := of_mem_ids hy
    have hlt := hp.lt (List.mem_append_right Hm hqR)
    rcases g.low x o1 hpN with hl | hl
    · omega
    · exact ha3 _ (hM _ hl) _ hy rfl

theorem Inv.join0 (h : Inv w0 M w H) (g : Inv w [] w' N) : Inv w0 M w' (N ++ H) := h.join (Hm := []) (List.Perm.refl _) (by simp) g

theorem Inv.cell_own (h : Inv w0 M w H) {cs : Array Value} {T : TypeId} {fr : Nat × Nat} (hm : (some b, .cells cs T fr) ∈ H) (off : Nat) : w.cell? ⟨b, off, none⟩ = cs[off]? := by
  have := h.own _ _ hm
  simp [World.cell?, this]

theorem Inv.frozen_own (h : Inv w0 M w H) {cs : Array Value} {T : TypeId} (hm : (some b, .cells cs T (0, 0)) ∈ H) (off : Nat) : w.frozen? ⟨b, off, none⟩ = false := by
  have := h.own _ _ hm
  simp [World.frozen?, this]

theorem Inv.cell_old (h : Inv w0 M w H) {a : Addr} {v : Value} (hc : w0.cell? a = some v) (hm : a.block ∉ M) : w.cell? a = some v := by
  have hb : a.block < w0.heap.size := by
    unfold World.cell? at hc
    split at hc
    · rename_i he
      exact (Array.getElem?_eq_some_iff.1 he).1
    · cases hc
  have := h.keep a.block hb hm
  unfold World.cell? at *
  rw [this]
  exact hc
end inv
/-- what a function's proof speaks of -/
structure Cx where
  P : Program
  ρ : Option Nat
  n : Nat
  D : List Deferred
  w0 : World
  M : List Nat

def FW (ρ : Option Nat) : Fence := { fn := fun _ => True, depth := none, alive := false, round := ρ }

def T (C : Cx) (c : Code) (Q : Exit → Act → World → Prop) (E : Env) (H : Heap) : Prop :=
  ∀ a w, Fits C.n C.D E a → Inv C.w0 C.M w H → c.wpIn (FW C.ρ) 0 C.P Q a w
def TO (C : Cx) (ops : Array Oper) (Q : Exit → Act → World → Prop) (l : List Nat) (E : Env) (H : Heap) : Prop :=
  ∀ a w, Fits C.n C.D E a → Inv C.w0 C.M w H → wpOpsIn (FW C.ρ) 0 C.P ops Q l a w
def X (C : Cx) (Q : Exit → Act → World → Prop) (e : Exit) (E : Env) (H : Heap) : Prop :=
  ∀ a w, Fits C.n C.D E a → Inv C.w0 C.M w H → Q e a w

/-- a call of a function, seen from outside -/
def Fnc (P : Program) (f : FuncId) (args : Array Value) (w : World) (M : List Nat) (Post : Value → Heap → Prop) : Prop :=
  Calls P f args w (fun e w' => ∃ v N, Post v N ∧ e = .returned v ∧ Inv w M w' N)
def FncR (w : World) (M : List Nat) (Post : Value → Heap → Prop) : Ending → World → Prop := fun e w' => ∃ v N, Post v N ∧ e = .returned v ∧ Inv w M w' N

theorem Fnc.mono {P : Program} {f : FuncId} {args : Array Value} {w : World} {M : List Nat} {A B : Value → Heap → Prop} (h : Fnc P f args w M A) (hab : ∀ v N, A v N → B v N) : Fnc P f args w M B :=
  Calls.mono h fun _ _ ⟨v, N, hA, he, hi⟩ => ⟨v, N, hab v N hA, he, hi⟩

theorem callsIn_FW {ρ : Option Nat} {n : Nat} {P : Program} {f : FuncId} {args : Array Value} {w : World} {R : Ending → World → Prop} : CallsIn (FW ρ) n P f args w R ↔ Calls P f args w R := by
  have : CallsIn (FW ρ) n P f args w R ↔ CallsIn Fence.wide n P f args w R := Iff.rfl
  rw [this]; exact callsIn_wide

section control
variable {C : Cx} {Q : Exit → Act → World → Prop} {E E' : Env} {H H' : Heap} {c x y : Code}

theorem T.weak (h : T C c Q E' H') (hE : ∀ t v, find E' t = some v → find E t = some v) (hH : Pick H' H) : T C c Q E H :=
  fun a w hf hi => h a w (hf.weak hE) (hi.pick hH)
theorem T.mono {Q' : Exit → Act → World → Prop} (h : T C c Q' E H) (hq : ∀ e a w, Q' e a w → Q e a w) : T C c Q E H :=
  fun a w hf hi => wpIn_mono (h a w hf hi) hq
theorem T.skip (h : X C Q .normal E H) : T C .skip Q E H := fun a w hf hi => wpIn_skip (h a w hf hi)
theorem T.ret (h : X C Q .ret E H) : T C .ret Q E H := fun a w hf hi => wpIn_ret (h a w hf hi)
theorem T.exit {id : Nat} (h : X C Q (.exit id) E H) : T C (.exit id) Q E H := fun a w hf hi => wpIn_exit (h a w hf hi)
theorem T.seq (h : T C x (Exit.then (y.wpIn (FW C.ρ) 0 C.P Q) Q) E H) : T C (.seq x y) Q E H := fun a w hf hi => wpIn_seq (h a w hf hi)
theorem T.block {id : Nat} (h : T C c (Exit.inBlock id Q) E H) : T C (.block id c) Q E H := fun a w hf hi => wpIn_block (h a w hf hi)
theorem T.region {id : Nat} {ops : Array Oper} (h : TO C ops Q (List.range ops.size) E H) : T C (.region id ops false) Q E H :=
  fun a w hf hi => wpIn_region (h a w hf hi)
theorem T.cond {o : Operand} {b : Bool} (ho : ev E o = some (.bool b)) (ht : b = true → T C x Q E H) (hf : b = false → T C y Q E H) : T C (.cond o x y) Q E H :=
  fun a w hfit hi => wpIn_cond_split (hfit.ev ho) (fun h => ht h a w hfit hi) (fun h => hf h a w hfit hi)
theorem T.condT {o : Operand} {b : Bool} (ho : ev E o = some (.bool b)) (hb : b = true) (ht : T C x Q E H) : T C (.cond o x y) Q E H := T.cond ho (fun _ => ht) (fun h => by rw [hb] at h; cases h)
theorem T.condF {o : Operand} {b : Bool} (ho : ev E o = some (.bool b)) (hb : b = false) (hf : T C y Q E H) : T C (.cond o x y) Q E H := T.cond ho (fun h => by rw [hb] at h; cases h) (fun _ => hf)
theorem T.condPT {o : Operand} {p : Prop} {hp : Decidable p} (ho : ev E o = some (.bool (@decide p hp))) (hb : p) (ht : T C x Q E H) : T C (.cond o x y) Q E H := T.condT ho (decide_eq_true hb) ht
theorem T.condPF {o : Operand} {p : Prop} {hp : Decidable p} (ho : ev E o = some (.bool (@decide p hp))) (hb : ¬p) (hf : T C y Q E H) : T C (.cond o x y) Q E H := T.condF ho (decide_eq_false hb) hf

theorem X.seq_normal (h : T C y Q E H) : X C (Exit.then (y.wpIn (FW C.ρ) 0 C.P Q) Q) .normal E H := h
theorem X.then_ret {K : Act → World → Prop} (h : X C Q .ret E H) : X C (Exit.then K Q) .ret E H := h
theorem X.then_exit {K : Act → World → Prop} {id : Nat} (h : X C Q (.exit id) E H) : X C (Exit.then K Q) (.exit id) E H := h
theorem X.block_normal {id : Nat} (h : X C Q .normal E H) : X C (Exit.inBlock id Q) .normal E H := h
theorem X.block_ret {id : Nat} (h : X C Q .ret E H) : X C (Exit.inBlock id Q) .ret E H := h
theorem X.block_here {id : Nat} (h : X C Q .normal E H) : X C (Exit.inBlock id Q) (.exit id) E H := fun a w hf hi => by
  simp only [Exit.inBlock, if_true]; exact h a w hf hi
/-- what was not assigned stands as it stood -/
def Since (D : List Nat) (E0 E : Env) : Prop := ∀ t v, t ∉ D → find E0 t = some v → find E t = some v
theorem Since.refl {D : List Nat} {E0 : Env} : Since D E0 E0 := fun _ _ _ h => h
theorem Since.put {D : List Nat} {E0 : Env} {d : Nat} {v : Value} (h : Since D E0 E) (hd : D.any (Nat.beq d) = true) : Since D E0 ((d, v) :: E) := fun t u ht hu => by
  rw [find_cons, if_neg]
  · exact h t u ht hu
  · rintro rfl; exact ht (any_beq.1 hd)

end control
end Go.Acq
