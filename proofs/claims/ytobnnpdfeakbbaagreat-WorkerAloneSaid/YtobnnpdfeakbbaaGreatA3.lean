/- Texts of this claim, one behind the other. -/
import Derived.Test.YtobnnpdfeakbbaaGreatA2
import Derived.Scope
import Derived.KernelRfl
import Derived.Test.YtobnnpdfeakbbaaGreatA1
import Derived.Test.YtobnnpdfeakbbaaGreatChecked
set_option linter.unusedVariables false
set_option linter.unusedSimpArgs false
noncomputable section
namespace Go.Acq.Vx
open Go Go.Acq Go.RowKit
section draw
variable {P : Program} {vr : Nat → Int} {X : List (FuncId × XK)} {ρ : Option Nat} {w0 : World} {M B : List Nat} {n : Nat} {ih : IH} {ops : Array Oper}
theorem valO_dst {o : Oper} {E : En} {s s' : St} {v : SV} (h : valO P X ih n ops o E s = some (v, s')) : dstOk n o.dst = true := by
 unfold valO at h
 rw [cond_eq_ite] at h
 split at h
 · assumption
 · cases h
theorem mem_hidF {m : Nat} : ∀ {l : List Oper} {i q : Nat}, ops.toList.drop i = l → (q ∈ hidF m l i ↔ i ≤ q ∧ q < ops.size ∧ fresB ops q = true ∧ bitB m q = false)
 | [], i, q, hl => by
  have := congrArg List.length hl
  rw [List.length_drop, Array.length_toList] at this
  simp at this
  show q ∈ [] ↔ _
  constructor
  · intro h; cases h
  · rintro ⟨a, b, _⟩; omega
 | o :: l, i, q, hl => by
  have ho : ops[i]? = some o := by
   rw [← Array.getElem?_toList]
   have : (ops.toList.drop i)[0]? = some o := by rw [hl]; rfl
   rw [List.getElem?_drop] at this; simpa using this
  have hi : i < ops.size := (Array.getElem?_eq_some_iff.1 ho).1
  have hl' : ops.toList.drop (i + 1) = l := by rw [← List.drop_drop, hl]; rfl
  have ih := mem_hidF (m := m) (q := q) hl'
  have hf : fresB ops i = isFresh o.op := by unfold fresB; rw [ho]
  have e : hidF m (o :: l) i = (match isFresh o.op with
   | true => @Bool.rec (fun _ => List Nat) (i :: hidF m l (i + 1)) (hidF m l (i + 1)) (bitB m i)
   | false => hidF m l (i + 1)) := rfl
  rw [e]
  by_cases hq : q = i
  ·
   subst hq
   cases hff : isFresh o.op with
   | false => rw [hf, hff]; simp only [ih]; constructor <;> (rintro ⟨a, b, c, d⟩; first | omega | cases c)
   | true =>
    rw [hf, hff]
    cases hb : bitB m q with
    | true => simp only [ih]; constructor <;> (rintro ⟨a, b, c, d⟩; first | omega | cases d)
    | false => simp only [List.mem_cons, true_or, true_iff]; exact ⟨Nat.le_refl _, hi, trivial, trivial⟩
  ·
   have key : (i ≤ q ∧ q < ops.size ∧ fresB ops q = true ∧ bitB m q = false) ↔ q ∈ hidF m l (i + 1) := by rw [ih]; constructor <;> (rintro ⟨a, b⟩; exact ⟨by omega, b⟩)
   rw [key]
   cases isFresh o.op with
   | false => exact Iff.rfl
   | true =>
    cases bitB m i with
    | true => exact Iff.rfl
    | false => simp only [List.mem_cons, hq, false_or]
theorem mem_hidL {A : List Nat} {i q : Nat} : q ∈ hidL ops A i ↔ q < ops.size ∧ fresB ops q = true ∧ ancB A i q = false := by
 unfold hidL
 rw [mem_hidF (ops := ops) (by simp)]
 exact ⟨fun ⟨_, b⟩ => b, fun b => ⟨Nat.zero_le _, b⟩⟩
theorem rkT_succ (i : Nat) : rkT ops (i + 1) = rkT ops i + (if truB ops i then 1 else 0) := by
 unfold rkT
 rw [List.range_succ, List.countP_append]
 congr 1
 simp [List.countP_cons]
end draw
end Go.Acq.Vx
noncomputable section
namespace Go.Acq.Vx
open Go Go.Acq Go.RowKit
def dead (o : Option AO) : Prop := ∀ a, o = some a → a.live = false
section fr
variable {P : Program} {vr : Nat → Int} {σ σ' : Nm} {w0 w w' : World} {M B M' B' : List Nat} {s s' sh t : St}
theorem WR.frame (h : WR P vr σ w0 M B s w) (hM : ∀ b, b ∈ M' → ∃ x o r, sh.heap.get x = some o ∧ s.heap.get x = some o ∧ o.live = true ∧ σ x = some (b, r)) (g : WR P vr σ' w M' B' s' w') (hσ : σ.le σ') (hn : t.next = s'.next)
    (ht : ∀ x p, σ' x = some p → dead (t.heap.get x) ∨ t.heap.get x = s'.heap.get x ∨ (t.heap.get x = s.heap.get x ∧ dead (sh.heap.get x) ∧ (σ x).isSome)) : WR P vr σ' w0 M B' t w' := by
  have key : ∀ i o b r, t.heap.get i = some o → o.live = true → σ' i = some (b, r) → s'.heap.get i = some o ∨ (s.heap.get i = some o ∧ dead (sh.heap.get i) ∧ σ i = some (b, r)) := fun i o b r hi hl h1 => by
    rcases ht i _ h1 with h2 | h2 | ⟨h2, h3, h4⟩
    · rw [h2 o hi] at hl; cases hl
    · exact .inl (by rw [← h2]; exact hi)
    · refine .inr ⟨by rw [← h2]; exact hi, h3, ?_⟩
      cases hq : σ i with
      | none => rw [hq] at h4; cases h4
      | some p =>
        have := hσ i p hq
        rw [h1] at this; exact this.symm
  have out : ∀ i o b r, s.heap.get i = some o → o.live = true → dead (sh.heap.get i) → σ i = some (b, r) → b ∉ M' := fun i o b r hi hl hd h1 hb => by
    obtain ⟨x, p, r', g1, g2, g3, g4⟩ := hM b hb
    have := h.inj i x o p b r r' hi hl g2 g3 h1 g4
    subst this
    rw [hd p g1] at g3; cases g3
  refine ⟨g.os.trans h.os, g.tape.trans h.tape, g.output.trans h.output, Nat.le_trans h.size g.size, fun b hb hm => ?_, fun i o b r hi hl h1 => ?_, fun i o b r hi hl h1 => ?_, fun i j o p b r r' hi hl hj hl' h1 h2 => ?_, fun i hi => g.fresh i (by rw [← hn]; exact hi), fun i hi => by rw [hn]; exact g.back i hi⟩
  · rw [g.keep b (Nat.lt_of_lt_of_le hb h.size) fun hb' => ?_]
    · exact h.keep b hb hm
    · obtain ⟨x, o, r, _, g2, g3, g4⟩ := hM b hb'
      rcases h.low x o b r g2 g3 g4 with h1 | h1
      · omega
      · exact hm h1
  · rcases key i o b r hi hl h1 with k1 | ⟨k1, k2, k3⟩
    · exact g.own i o b r k1 hl h1
    · obtain ⟨ob, q1, q2⟩ := h.own i o b r k1 hl k3
      refine ⟨ob, ?_, q2.mono hσ⟩
      rw [g.keep b (h.lt k1 hl k3) (out i o b r k1 hl k2 k3)]; exact q1
  · rcases key i o b r hi hl h1 with k1 | ⟨k1, k2, k3⟩
    · rcases g.low i o b r k1 hl h1 with q | q
      · exact .inl (Nat.le_trans h.size q)
      · obtain ⟨x, p, r', _, g2, g3, g4⟩ := hM b q
        exact h.low x p b r' g2 g3 g4
    · exact h.low i o b r k1 hl k3
  · have Yx : ∀ {i j o p r r'}, s'.heap.get i = some o → o.live = true → σ' i = some (b, r) → s.heap.get j = some p → p.live = true → dead (sh.heap.get j) → σ j = some (b, r') → False := fun {i j o p r r'} k1 k2 k3 k4 k5 k6 k7 => by
      rcases g.low i o b r k1 k2 k3 with q | q
      · have := h.lt k4 k5 k7; omega
      · exact out j p b r' k4 k5 k6 k7 q
    rcases key i o b r hi hl h1 with k1 | ⟨k1, k2, k3⟩ <;> rcases key j p b r' hj hl' h2 with q1 | ⟨q1, q2, q3⟩
    · exact g.inj i j o p b r r' k1 hl q1 hl' h1 h2
    · exact (Yx k1 hl h1 q1 hl' q2 q3).elim
    · exact (Yx q1 hl' h2 k1 hl k2 k3).elim
    · exact h.inj i j o p b r r' k1 hl q1 hl' k3 q3
end fr
theorem showH_get {base : Nat} {h0 : Tri AO} : ∀ {l : List Nat} {h : Tri AO} {x : Nat}, (showH base h0 h l).get x = if ∃ q, q ∈ l ∧ base + q = x then some (orGone (h0.get x)) else h.get x
 | [], h, x => by show h.get x = _; simp
 | j :: l, h, x => by
  show (showH base h0 (h.set (base + j) (orGone (h0.get (base + j)))) l).get x = _
  rw [showH_get, Tri.get_set]
  by_cases h1 : ∃ q, q ∈ l ∧ base + q = x
  · rw [if_pos h1, if_pos]; obtain ⟨q, a, b⟩ := h1; exact ⟨q, .tail _ a, b⟩
  ·
   rw [if_neg h1]
   by_cases h2 : base + j = x
   · rw [if_pos h2, if_pos ⟨j, .head _, h2⟩, h2]
   ·
    rw [if_neg h2, if_neg]
    rintro ⟨q, a, b⟩
    rcases List.mem_cons.1 a with rfl | a
    · exact h2 b
    · exact h1 ⟨q, a, b⟩
section ops
variable {P : Program} {vr : Nat → Int} {X : List (FuncId × XK)} {σ : Nm} {ρ : Option Nat} {w0 w : World} {M B : List Nat} {n : Nat} {ih : IH} {ops : Array Oper} {E : En} {s s1 s2 : St} {a : Act} {v : SV}
end ops
end Go.Acq.Vx
noncomputable section
namespace Go.Acq.Vx
open Go Go.Acq Go.RowKit
section draw
variable {P : Program} {vr : Nat → Int} {X : List (FuncId × XK)} {σ : Nm} {ρ : Option Nat} {w0 w : World} {M B : List Nat} {n : Nat} {ih : IH} {ops : Array Oper} {A : List Nat} {base : Nat} {E E2 : En} {s s2 : St} {a : Act}
theorem valO_ms {o : Oper} {E : En} {s s' : St} {v : SV} (h : valO P X ih n ops o E s = some (v, s')) : s'.ms = s.ms := by
 unfold valO at h
 rw [cond_eq_ite] at h
 split at h
 ·
  split at h
  ·
   rw [cond_eq_ite] at h
   split at h
   ·
    split at h
    · injection h with h; injection h with _ h; rw [← h]
    · cases h
   ·
    split at h
    · injection h with h; injection h with _ h; rw [← h]
    · cases h
  · injection h with h; injection h with _ h; rw [← h]
  · cases h
 · cases h
inductive StepD (P : Program) (X : List (FuncId × XK)) (ih : IH) (n : Nat) (ops : Array Oper) (A : List Nat) (base j : Nat) (o : Oper) (E : En) (s : St) (v : SV) (s' : St) : Prop where
  | made (hf : isFresh o.op = true) (hd : dstOk n o.dst = true) (hw : wantS ops E o.guard = some true) (cs : List SV) (t : TypeId) (h : freshV P E (base + j) o.op = some (v, cs, t)) (hs : s' = s.set (base + j) (.cells (putC .e 0 cs) (lenL cs) t false))
  | unmade (hf : isFresh o.op = true) (hd : dstOk n o.dst = true) (hw : wantS ops E o.guard = some false) (hv : v = .und) (hs : s' = s.set (base + j) .gone)
  | eff (hf : isFresh o.op = false) (he : isEff o.op = true) (s1 : St) (h : valO P X ih n ops o E ⟨hideH base s.heap (hidL ops A j), s.next, s.ms⟩ = some (v, s1)) (hs : s' = ⟨showH base s.heap s1.heap (hidL ops A j), s1.next, s1.ms⟩)
  | quiet (hf : isFresh o.op = false) (he : isEff o.op = false) (h1 : seesOk ops A base E j o.op = true) (h : valO P X ih n ops o E s = some (v, s')) (hs : s' = s)
theorem StepD.ms {j : Nat} {o : Oper} {E : En} {s s' : St} {v : SV} (h : StepD P X ih n ops A base j o E s v s') : s'.ms = s.ms := by
 cases h with
 | made _ _ _ _ _ _ hs => subst hs; rfl
 | unmade _ _ _ _ hs => subst hs; rfl
 | eff _ _ s1 h hs => subst hs; exact (valO_ms h : _)
 | quiet _ _ _ _ hs => subst hs; rfl
theorem StepD.dst {j : Nat} {o : Oper} {E : En} {s s' : St} {v : SV} (h : StepD P X ih n ops A base j o E s v s') : dstOk n o.dst = true := by
 cases h with
 | made _ hd _ _ _ _ _ => exact hd
 | unmade _ hd _ _ _ => exact hd
 | eff _ _ s1 h hs => exact valO_dst h
 | quiet _ _ _ h _ => exact valO_dst h
section cnt
variable {done : Nat → Bool} {i : Nat}
end cnt
end draw
end Go.Acq.Vx
noncomputable section
namespace Go.Acq.Vx
open Go Go.Acq Go.RowKit
section draw
variable {P : Program} {vr : Nat → Int} {X : List (FuncId × XK)} {σ : Nm} {ρ : Option Nat} {w0 w : World} {M B : List Nat} {n : Nat} {ih : IH} {ops : Array Oper} {A : List Nat} {base : Nat} {E E2 : En} {s s2 : St} {a : Act}
structure Tr (P : Program) (X : List (FuncId × XK)) (ih : IH) (n : Nat) (ops : Array Oper) (A : List Nat) (base : Nat) (Es : Nat → En) (Ss Tk : Nat → St) (vs : Nat → SV) (cs : Nat → AO) : Prop where
  step : ∀ (j : Nat) (o : Oper), j < ops.size → ops[j]? = some o → StepD P X ih n ops A base j o (restr (Es j) (readsO ops o)) (Ss j) (vs j) (Ss (j + 1)) ∧ Es (j + 1) = putE (Es j) o.dst (vs j)
  zero : Tk 0 = Ss 0
  tk : ∀ j, j < ops.size → truB ops j = true → Tk (rkT ops (j + 1)) = Ss (j + 1)
  cs : ∀ q, cs q = orGone ((Ss (q + 1)).heap.get (base + q))
section tr
variable {Es : Nat → En} {Ss Tk : Nat → St} {vs : Nat → SV} {cs : Nat → AO} (H : Tr P X ih n ops A base Es Ss Tk vs cs)
include H
theorem Tr.oper {j : Nat} (hj : j < ops.size) : ∃ o, ops[j]? = some o ∧ truB ops j = isTrue o.op ∧ fresB ops j = isFresh o.op ∧ StepD P X ih n ops A base j o (restr (Es j) (readsO ops o)) (Ss j) (vs j) (Ss (j + 1)) := by
 have ho : ops[j]? = some ops[j] := Array.getElem?_eq_getElem hj
 exact ⟨_, ho, by unfold truB; rw [ho], by unfold fresB; rw [ho], (H.step j _ hj ho).1⟩
omit H in
theorem Tr.rk {j : Nat} (hj : j < ops.size) (ht : truB ops j = false) : rkT ops (j + 1) = rkT ops j := by rw [rkT_succ, ht]; simp
theorem Tr.out : ∀ {j : Nat}, j ≤ ops.size → (∀ x, (x < base ∨ base + ops.size ≤ x) → (Ss j).heap.get x = (Tk (rkT ops j)).heap.get x) ∧ (Ss j).next = (Tk (rkT ops j)).next
 | 0, _ => by
  have : rkT ops 0 = 0 := rfl
  rw [this, H.zero]; exact ⟨fun _ _ => rfl, rfl⟩
 | j + 1, hj => by
  obtain ⟨ih1, ih2⟩ := Tr.out (j := j) (by omega)
  obtain ⟨o, ho, h1, h2, h3⟩ := H.oper (show j < ops.size by omega)
  cases ht : truB ops j with
  | true => rw [H.tk j (by omega) ht]; exact ⟨fun _ _ => rfl, rfl⟩
  | false =>
   rw [Tr.rk (by omega) ht]
   have hset : ∀ q, Ss (j + 1) = (Ss j).set (base + j) q → (∀ x, (x < base ∨ base + ops.size ≤ x) → (Ss (j + 1)).heap.get x = (Tk (rkT ops j)).heap.get x) ∧ (Ss (j + 1)).next = (Tk (rkT ops j)).next := fun q e => by
    rw [e]
    refine ⟨fun x hx => ?_, ih2⟩
    show ((Ss j).heap.set (base + j) q).get x = _
    rw [Tri.get_set, if_neg (by omega)]; exact ih1 x hx
   cases h3 with
   | made _ _ _ _ _ _ hs => exact hset _ hs
   | unmade _ _ _ _ hs => exact hset _ hs
   | eff hf he _ _ _ => rw [h1] at ht; simp [isTrue, hf, he] at ht
   | quiet _ _ _ _ hs => rw [hs]; exact ⟨ih1, ih2⟩
theorem Tr.made_get {q : Nat} (hq : q < ops.size) (hf : fresB ops q = true) : (Ss (q + 1)).heap.get (base + q) = some (cs q) := by
 obtain ⟨o, ho, h1, h2, h3⟩ := H.oper hq
 rw [h2] at hf
 have key : ∀ c, Ss (q + 1) = (Ss q).set (base + q) c → (Ss (q + 1)).heap.get (base + q) = some (cs q) := fun c e => by
  have : (Ss (q + 1)).heap.get (base + q) = some c := by
   rw [e]; show ((Ss q).heap.set (base + q) c).get (base + q) = _; rw [Tri.get_set, if_pos rfl]
  rw [H.cs, this]; rfl
 cases h3 with
 | made _ _ _ _ _ _ hs => exact key _ hs
 | unmade _ _ _ _ hs => exact key _ hs
 | eff hf' _ _ _ _ => rw [hf] at hf'; cases hf'
 | quiet hf' _ _ _ _ => rw [hf] at hf'; cases hf'
theorem Tr.kept : ∀ {j : Nat}, j ≤ ops.size → ∀ q, q < j → fresB ops q = true → (∀ e, q < e → e < j → truB ops e = true → ancB A e q = false) → (Ss j).heap.get (base + q) = some (cs q)
 | 0, _, q, hq, _, _ => by omega
 | j + 1, hj, q, hq, hf, hno => by
  by_cases e : q = j
  · subst e; exact H.made_get (by omega) hf
  ·
   have ihq := Tr.kept (j := j) (by omega) q (by omega) hf (fun e h1 h2 => hno e h1 (by omega))
   obtain ⟨o, ho, h1, h2, h3⟩ := H.oper (show j < ops.size by omega)
   have key : ∀ c, Ss (j + 1) = (Ss j).set (base + j) c → (Ss (j + 1)).heap.get (base + q) = some (cs q) := fun c e' => by
    rw [e']; show ((Ss j).heap.set (base + j) c).get (base + q) = _; rw [Tri.get_set, if_neg (by omega)]; exact ihq
   cases h3 with
   | made _ _ _ _ _ _ hs => exact key _ hs
   | unmade _ _ _ _ hs => exact key _ hs
   | eff hf' he s1 _ hs =>
    have ht : truB ops j = true := by rw [h1]; simp [isTrue, hf', he]
    have hn := hno j (by omega) (by omega) ht
    rw [hs]
    show (showH base (Ss j).heap s1.heap (hidL ops A j)).get (base + q) = _
    have hm : q ∈ hidL ops A j := mem_hidL.2 ⟨by omega, hf, hn⟩
    rw [showH_get, if_pos ⟨q, hm, rfl⟩, ihq]; rfl
   | quiet _ _ _ _ hs => rw [hs]; exact ihq
end tr
section jw
variable {Es : Nat → En} {Ss Tk : Nat → St} {vs : Nat → SV} {cs : Nat → AO} (H : Tr P X ih n ops (ancs ops.toList []) base Es Ss Tk vs cs) (hD : DOk ops (ancs ops.toList [])) {done : Nat → Bool} {i : Nat} {ms : List Nat} {sD : St}
include H hD
omit hD in
end jw
end draw
end Go.Acq.Vx
noncomputable section
namespace Go.Acq.Vx
open Go Go.Acq Go.RowKit
section draw
variable {P : Program} {vr : Nat → Int} {X : List (FuncId × XK)} {σ : Nm} {ρ : Option Nat} {w0 w : World} {M B : List Nat} {n : Nat} {ih : IH} {ops : Array Oper} {E E2 : En} {s s2 : St} {a : Act}
end draw
end Go.Acq.Vx
noncomputable section
namespace Go.Acq.Vx
open Go Go.Acq Go.RowKit
def LW (ρ : Option Nat) (P : Program) (c : Code) (Q : Exit → Act → World → Prop) (a : Act) (w : World) : Prop :=
  ∀ (b : Frame) (k : List Item) (cs : List Frame), b.roundOf = (FW ρ).round → (FW ρ).fn b.fn → (FW ρ).room (cs.length + 1 + 0) →
    ∃ e a' w', Q e a' w' ∧ ArrivesIn (Machine.fenced P (FW ρ)) P (lone (b.atR a (.code c :: .inLoop c :: k)) cs w) b k cs e a' w'
theorem LW.wpIn {ρ : Option Nat} {P : Program} {c : Code} {Q : Exit → Act → World → Prop} {a : Act} {w : World} (h : LW ρ P c Q a w) : (Code.loop c).wpIn (FW ρ) 0 P Q a w := by
 intro b k cs hro hb hr
 obtain ⟨e, a', w', hq, harr⟩ := h b k cs hro hb hr
 exact ⟨e, a', w', hq, .of_steps (.one (fenced_calm hb hr rfl) stepR_loop) harr⟩
theorem LW.of {ρ : Option Nat} {P : Program} {c : Code} {Q : Exit → Act → World → Prop} {a : Act} {w : World} (h : c.wpIn (FW ρ) 0 P (Exit.then (LW ρ P c Q) Q) a w) : LW ρ P c Q a w := by
 intro b k cs hro hb hr
 obtain ⟨e, a₁, w₁, hq, harr⟩ := h b (.inLoop c :: k) cs hro hb hr
 cases e with
 | normal =>
  obtain ⟨e₂, a₂, w₂, hq₂, harr₂⟩ := hq b k cs hro hb hr
  exact ⟨e₂, a₂, w₂, hq₂, .of_steps (StepsIn.trans harr (.one (fenced_calm hb hr rfl) stepR_inLoop)) harr₂⟩
 | exit id => exact ⟨_, a₁, w₁, hq, .pass (x := .inLoop c) rfl (fun _ _ => .inl (by simp)) harr⟩
 | goto l => exact ⟨_, a₁, w₁, hq, .pass (x := .inLoop c) rfl (fun _ _ => .inl (by simp)) harr⟩
 | ret => exact ⟨_, a₁, w₁, hq, .pass (x := .inLoop c) rfl (fun _ _ => .inl (by simp)) harr⟩
 | panic ch => exact ⟨_, a₁, w₁, hq, .pass (x := .inLoop c) rfl (fun _ _ => .inl (by simp)) harr⟩
 | outgrown => exact ⟨_, a₁, w₁, hq, .pass (x := .inLoop c) rfl (fun _ _ => .inl (by simp)) harr⟩
section code
variable {P : Program} {vr : Nat → Int} {X : List (FuncId × XK)} {σ : Nm} {ρ : Option Nat} {w0 w : World} {M B : List Nat} {n : Nat} {ih : IH} {E E' : En} {s s' : St} {a : Act} {top : Bool}
theorem FA.weak {E1 : En} {ms : List Nat} (h : FA vr σ n E ms a) (hE : ∀ t v, fnd t E1 = some v → fnd t E = some v) : FA vr σ n E1 ms a := ⟨⟨h.fe.size, fun t v ht => h.fe.get t v (hE t v ht)⟩, h.df⟩
end code
end Go.Acq.Vx
noncomputable section
namespace Go.Acq.Vx
open Go Go.Acq Go.RowKit
section fun'
variable {P : Program} {vr : Nat → Int} {X : List (FuncId × XK)} {σ : Nm} {w0 w : World} {M B : List Nat} {n : Nat} {ih : IH} {E : En} {s s' : St}
theorem WR.start (w : World) : WR P vr (fun _ => none) w [] [] ⟨.e, 0, []⟩ w := by
 have h0 : ∀ (i : Nat) (o : AO), (St.mk (.e : Tri AO) 0 []).heap.get i = some o → False := fun i o h => by
  have : (St.mk (.e : Tri AO) 0 []).heap.get i = none := Tri.get_e i
  rw [this] at h; cases h
 exact ⟨rfl, rfl, rfl, Nat.le_refl _, fun _ _ _ => rfl, fun i o b r h => (h0 i o h).elim, fun i o b r h => (h0 i o h).elim, fun i j o p b r r' h => (h0 i o h).elim, fun _ _ => rfl, fun i hi => (by cases hi)⟩
end fun'
end Go.Acq.Vx
noncomputable section
namespace Go.Acq.Vx
open Go Go.Acq
structure K (α : Type) where
  f : α
abbrev R := Option (Ex × En × St)
def ob {α : Type} (x : Option α) (f : α → R) : R := @Option.rec α (fun _ => R) none f x
def small (n : Int) : Bool := @Int.rec (fun _ => Bool) (fun m => Nat.ble m 4611686018427387904) (fun m => Nat.ble m 4611686018427387904) n
end Go.Acq.Vx
noncomputable section
namespace Go.Acq.Vx
open Go Go.Acq
end Go.Acq.Vx
noncomputable section
namespace Go.Acq.Vx
open Go Go.Acq Go.RowKit
variable {P : Program} {X : List (FuncId × XK)}
def closedV : SV → Bool
  | .tup vs => vs.all plainC
  | v => plainC v
theorem VR.closed {vr : Nat → Int} {σ σ' : Nm} {v : SV} {x : Value} (hc : closedV v = true) (h : VR vr σ v x) : VR vr σ' v x := by
 cases v <;> first | exact h.plain hc | skip
 cases h with
 | tup h => exact .tup (h.plain hc)
end Go.Acq.Vx
namespace Go.Acq
open Go Go.RowKit
section rules
variable {C : Cx} {ops : Array Oper} {Q : Act → Prop} {l : List Nat} {E : Env} {H R : Heap} {i d : Nat} {ty : TypeId} {pos : String} {af : Array Edge} {g : Option (Nat × Bool)}
theorem Z1m {t : TypeId} {x : Operand} {b o k : Nat} {cs vs : List Value} (hc : HB C.w0 C.M b cs) (q0_ : ops[i]? = some ⟨some d, .load t x, ty, pos, af, g⟩ ∧ Zv ops E g = true ∧ Nat.ble (d + 1) C.n = true ∧ ev E x = some (.pointer (some ⟨b, o, none⟩)) ∧ (cs.drop o).take k = vs ∧ vs.length = k) (hT : Wg C.P t k = true)
    (kk : TQ C ops Q l ((d, .agg vs.toArray) :: E) H) : TQ C ops Q (i :: l) E H := have ⟨ho, hg, hd, hx, hv, hk⟩ := q0_;
  Z9z ho hg hd hx hT hk (fun w hi j v hj => by
    rw [Addr.add_mid]
    subst hv
    rw [List.getElem?_take] at hj
    split at hj
    · rw [List.getElem?_drop] at hj; exact hi.cell_old (hc.has (o + j) v hj) hc.far
    · cases hj) kk
end rules
section ends
variable {C : Cx} {E : Env} {H N : Heap}
end ends
end Go.Acq
namespace Go.Acq
open Go Go.RowKit
section rules
variable {C : Cx} {ops : Array Oper} {Q : Exit → Act → World → Prop} {l : List Nat} {E : Env} {H R : Heap} {i d : Nat} {ty : TypeId} {pos : String} {af : Array Edge} {g : Option (Nat × Bool)}
theorem Z4i {t T' : TypeId} {x y : Operand} {b o k : Nat} {cs vs cs' : List Value} (ho : ops[i]? = some ⟨none, .store t x y, ty, pos, af, g⟩) (hg : Zv ops E g = true)
    (hx : ev E x = some (.pointer (some ⟨b, o, none⟩))) (hy : ev E y = some (.agg vs.toArray)) (ht : Take (some b, .cells cs.toArray T' (0, 0)) H R)
    (hs : Yq C.P t = some k) (hk : vs.length = k) (hfit : Nat.ble (o + k) cs.length = true) (h1 : vs.all (·.oneCell') = true) (hcs : cs.take o ++ vs ++ cs.drop (o + k) = cs')
    (kk : TO C ops Q l E ((some b, .cells cs'.toArray T' (0, 0)) :: R)) : TO C ops Q (i :: l) E H :=
  Z49 (vs := vs) ho hg hx hy ht (by simp [Value.cells]) (by rw [hk]; exact hs) (fun u hu => List.all_eq_true.1 h1 u hu) (by have := Nat.le_of_ble_eq_true hfit; simp; omega) (by
    rw [hk, ← hcs]) kk
theorem Wt {t e : TypeId} {x y : Operand} {cs : List Value} {k : IntKind} {p : Int} {q n : Nat} {v : Value} (hp : p = (q : Int)) (ho : ops[i]? = some ⟨some d, .index t x y, ty, pos, af, g⟩) (hg : Zv ops E g = true) (hd : Nat.ble (d + 1) C.n = true)
    (hx : ev E x = some (.agg cs.toArray)) (hy : ev E y = some (.int k p)) (hT : C.P.underlying t = some (.array n e)) (hs : Xu C.P e = true) (hq : Nat.ble (q + 1) n = true) (hv : cs[q]? = some v)
    (kk : TO C ops Q l ((d, v) :: E) H) : TO C ops Q (i :: l) E H := by
  subst hp
  have h1 := Nat.le_of_ble_eq_true hq
  refine TO.val ho hg hd (by simp) (fun a w hf _ => ?_) kk
  simp [execOp, hf.ev hx, hf.ev hy, Instr.index, asIntOf, run_underlying hT, Rj (Zks hs), part, Zer hs, hv]
  omega
theorem Z48 {t e : TypeId} {x y : Operand} {b n c q : Nat} {k : IntKind} {p : Int} (hp : p = (q : Int)) (hq : Nat.ble (q + 1) n = true)
    (ho : ops[i]? = some ⟨some d, .indexAddr t x y, ty, pos, af, g⟩) (hg : Zv ops E g = true) (hd : Nat.ble (d + 1) C.n = true)
    (hx : ev E x = some (nV b n c)) (hy : ev E y = some (.int k p)) (ht : Xh C.P t = some e) (hs : Yq C.P e = some 1)
    (kk : TO C ops Q l ((d, .pointer (some ⟨b, q, none⟩)) :: E) H) : TO C ops Q (i :: l) E H := by
  subst hp
  have h1 := Nat.le_of_ble_eq_true hq
  exact Zfk ho hg hd hx hy ht hs (by omega) (by omega) (by simpa using kk)
def funcT (P : Program) (t : TypeId) : Bool := match P.underlying t with
  | some (.func _ _ _) => true
  | _ => false
theorem funcT_eq {P : Program} {t : TypeId} (h : funcT P t = true) : ∃ ps rs vd, P.underlying t = some (.func ps rs vd) := by
 unfold funcT at h split at h
 · rename_i ps rs vd e; exact ⟨ps, rs, vd, e⟩
 · cases h
theorem Z36 {t t2 : TypeId} {x y : Operand} {f : Fn} {u v : Array Value} (ho : ops[i]? = some ⟨some d, .binOp .neq t x y t2, ty, pos, af, g⟩) (hg : Zv ops E g = true) (hd : Nat.ble (d + 1) C.n = true)
    (hx : ev E x = some (.func f u v)) (hy : ev E y = some .nilFunc) (ht : funcT C.P t = true) (kk : TO C ops Q l ((d, .bool true) :: E) H) : TO C ops Q (i :: l) E H :=
  TO.val ho hg hd (by simp) (fun a' w hf _ => by
    obtain ⟨ps, rs, vd, he⟩ := funcT_eq ht
    have := Zb5 (Z5r fun q => Vx.run_equalIn_fn (P := C.P) w q he f u v) rfl
    simp only [execOp, hf.ev hx, hf.ev hy, eqGuard_at_func]
    simp [this]) kk
theorem TO.atLdR {x : Operand} {f : FuncId} {at' : Array TypeId} {base : Option Addr} {n c : Nat} {p : Int} {xs : List Int} (hF : Ks C.P f (Extern.Atomic.loadT (.int .i64))) (hr : RS C.w0 C.M iC 1 base n c xs) (hp : inb p xs.length)
    (ho : ops[i]? = some ⟨some d, .call ⟨.value (.func f), #[x], at'⟩, ty, pos, af, g⟩) (hg : Zv ops E g = true) (hd : Nat.ble (d + 1) C.n = true)
    (hx : ev E x = some (.pointer (some (ea base (p.toNat * 1))))) (kk : TO C ops Q l ((d, iV (xs.getD p.toNat 0)) :: E) H) : TO C ops Q (i :: l) E H :=
  TO.atLd hF ho hg hd hx (fun w hi => by
    have := (hr.ro.monoM hr.far hi).at 0 (o := p.toNat) (c := 0) (Uu hp) (by omega)
    simpa using this) kk
theorem Ziz {x y : Operand} {f : FuncId} {at' : Array TypeId} {ob : Option Nat} {n c : Nat} {p v : Int} {xs : List Int} {j : List Value} {T : TypeId} (h : i64ok (xs.getD p.toNat 0 + v)) (hF : Ks C.P f (Extern.Atomic.update (Op.intArith .add) .i64 true)) (hz : ob = none → c = 0) (hc : n ≤ c) (hn : xs.length = n) (hp : inb p xs.length)
    (ho : ops[i]? = some ⟨some d, .call ⟨.value (.func f), #[x, y], at'⟩, ty, pos, af, g⟩) (hg : Zv ops E g = true) (hd : Nat.ble (d + 1) C.n = true)
    (hx : ev E x = some (.pointer (some (ea (sb ob) (p.toNat * 1))))) (hy : ev E y = some (iV v)) (ht : Take (ob, Obj.cells (arr iC xs j).toArray T (0, 0)) H R)
    (kk : TO C ops Q l ((d, iV (xs.getD p.toNat 0 + v)) :: E) ((ob, Obj.cells (arr iC (xs.set p.toNat (xs.getD p.toNat 0 + v)) j).toArray T (0, 0)) :: R)) : TO C ops Q (i :: l) E H :=
  Znr hF hz hc hn hp ho hg hd hx hy ht (by rw [Jd h.1 h.2]; exact kk)
end rules
end Go.Acq
namespace Go.Acq
open Go Go.RowKit
def Gp (P : Program) (ops : Array Oper) (Qn : Act → Prop) : List Nat → Act → Prop
  | [], a => Qn a
  | i :: rest, a => match ops[i]? with
    | none => Gp P ops Qn rest a
    | some o => (∀ c, o.op ≠ .defer c) ∧ (∀ cs b, o.op ≠ .select cs b) ∧
        if Region.wanted o (yielded ops a.tmps) = true then ∃ v, (∀ w, (execOp a.eval o).run P w = .ok (.value v) w) ∧ Gp P ops Qn rest (a.put o.dst v)
        else Gp P ops Qn rest (a.put o.dst undef)
def TU (C : Cx) (ops : Array Oper) (Qn : Act → Prop) (l : List Nat) (E : Env) : Prop := ∀ a, Fits C.n C.D E a → Gp C.P ops Qn l a
def setB (ops : Array Oper) (m : Nat) : List Nat → List Nat → Bool
  | _, [] => true
  | pre, i :: l => Nat.blt i m && !(pre.any (Nat.beq i)) && (match ops[i]? with
    | none => false
    | some o => (match o.dst with | some d => (List.range m).all fun j => Nat.beq j i || !(Yt ops j == some d) | none => false) &&
        (o.looksAt ops).all fun t => (List.range m).all fun j => !(Yt ops j == some t) || (pre.any (Nat.beq j) && Wl ops ops.size i j)) && setB ops m (i :: pre) l
section
variable {C : Cx} {ops : Array Oper} {Q : Exit → Act → World → Prop} {E : Env} {H : Heap}
def Xe (ops : Array Oper) (vs : Nat → Value) : List Nat → Act → Act
  | [], a => a
  | i :: l, a => Xe ops vs l (a.put (Yt ops i) (vs i))
theorem Z2t {vs : Nat → Value} : ∀ (l l' : List Nat) (a : Act), Xe ops vs (l ++ l') a = Xe ops vs l' (Xe ops vs l a)
 | [], _, _ => rfl
 | i :: l, l', a => by simp only [List.cons_append, Xe]; exact Z2t l l' _
theorem Z0e {vs vs' : Nat → Value} : ∀ (l : List Nat) (a : Act), (∀ i, i ∈ l → vs i = vs' i) → Xe ops vs l a = Xe ops vs' l a
 | [], _, _ => rfl
 | i :: l, a, h => by simp only [Xe]; rw [h i (.head _)]; exact Z0e l _ fun j hj => h j (.tail _ hj)
def StepQ (P : Program) (ops : Array Oper) (K : World → Prop) (vs : Nat → Value) (i : Nat) (a : Act) : Prop :=
  ∃ o, ops[i]? = some o ∧ (∀ c, o.op ≠ .defer c) ∧ (∀ cs b, o.op ≠ .select cs b) ∧
    ((Region.wanted o (yielded ops a.tmps) = true ∧ ∀ w, K w → Jq P K w (vs i) ((execOp a.eval o).run P w)) ∨ (Region.wanted o (yielded ops a.tmps) = false ∧ vs i = undef))
def StepU (P : Program) (ops : Array Oper) (vs : Nat → Value) (i : Nat) (a : Act) : Prop :=
  ∃ o, ops[i]? = some o ∧ (∀ c, o.op ≠ .defer c) ∧ (∀ cs b, o.op ≠ .select cs b) ∧
    ((Region.wanted o (yielded ops a.tmps) = true ∧ ∀ w, (execOp a.eval o).run P w = .ok (.value (vs i)) w) ∨ (Region.wanted o (yielded ops a.tmps) = false ∧ vs i = undef))
theorem StepU.q {P : Program} {K : World → Prop} {vs : Nat → Value} {i : Nat} {a : Act} (h : StepU P ops vs i a) : StepQ P ops K vs i a := by
 obtain ⟨o, h1, h2, h3, h4⟩ := h
 refine ⟨o, h1, h2, h3, h4.imp (fun h => ⟨h.1, fun w _ => ?_⟩) id⟩
 rw [h.2 w]; exact ⟨rfl, rfl⟩
theorem Za8 {P : Program} {K : World → Prop} {Qn : Act → Prop} : ∀ (l : List Nat) (a : Act), l.Nodup → (∀ i, i ∈ l → ∃ o, ops[i]? = some o) → Kq P ops K Qn l a →
    ∃ vs : Nat → Value, (∀ pre i post, l = pre ++ i :: post → StepQ P ops K vs i (Xe ops vs pre a)) ∧ Qn (Xe ops vs l a)
  | [], a, _, _, h => ⟨fun _ => undef, fun pre i post e => by simp at e, h⟩
  | i :: l, a, hn, ho, h => by
    obtain ⟨o, hoi⟩ := ho i (.head _)
    simp only [Kq, hoi] at h
    obtain ⟨hd, hs, h⟩ := h
    have hslot : Yt ops i = o.dst := by simp [Yt, hoi]
    obtain ⟨v, hv, hr⟩ : ∃ v, ((Region.wanted o (yielded ops a.tmps) = true ∧ ∀ w, K w → Jq P K w v ((execOp a.eval o).run P w)) ∨ (Region.wanted o (yielded ops a.tmps) = false ∧ v = undef)) ∧ Kq P ops K Qn l (a.put o.dst v) := by
      by_cases hw : Region.wanted o (yielded ops a.tmps) = true
      · rw [if_pos hw] at h; obtain ⟨v, h1, h2⟩ := h; exact ⟨v, .inl ⟨hw, h1⟩, h2⟩
      · rw [if_neg hw] at h; exact ⟨undef, .inr ⟨by simpa using hw, rfl⟩, h⟩
    have hn' := List.nodup_cons.1 hn
    obtain ⟨vs, g1, g2⟩ := Za8 l _ hn'.2 (fun j hj => ho j (.tail _ hj)) hr
    let vs' : Nat → Value := fun j => if j = i then v else vs j
    have ei : vs' i = v := by simp [vs']
    have ee : ∀ (l' : List Nat) (b : Act), i ∉ l' → Xe ops vs' l' b = Xe ops vs l' b := fun l' b hni => Z0e l' b fun j hj => by
      have : j ≠ i := by rintro rfl; exact hni hj
      simp [vs', this]
    refine ⟨vs', fun pre j post e => ?_, ?_⟩
    · cases pre with
      | nil => simp only [List.nil_append, List.cons.injEq] at e; obtain ⟨rfl, rfl⟩ := e; exact ⟨o, hoi, hd, hs, by rw [ei]; exact hv⟩
      | cons q pre =>
        simp only [List.cons_append, List.cons.injEq] at e
        obtain ⟨rfl, rfl⟩ := e
        have h1 := g1 pre j post rfl
        have hni : i ∉ pre := fun hm => hn'.1 (List.mem_append_left _ hm)
        have hji : j ≠ i := by rintro rfl; exact hn'.1 (by simp)
        simp only [Xe]
        rw [ei, hslot, ee pre _ hni]
        obtain ⟨o', a1, a2, a3, a4⟩ := h1
        have evj : vs' j = vs j := by simp [vs', hji]
        exact ⟨o', a1, a2, a3, by rw [evj]; exact a4⟩
    · simp only [Xe]; rw [ei, hslot, ee l _ hn'.1]; exact g2
theorem Zb9 {P : Program} {Qn : Act → Prop} : ∀ (l : List Nat) (a : Act), l.Nodup → (∀ i, i ∈ l → ∃ o, ops[i]? = some o) → Gp P ops Qn l a →
    ∃ vs : Nat → Value, (∀ pre i post, l = pre ++ i :: post → StepU P ops vs i (Xe ops vs pre a)) ∧ Qn (Xe ops vs l a)
  | [], a, _, _, h => ⟨fun _ => undef, fun pre i post e => by simp at e, h⟩
  | i :: l, a, hn, ho, h => by
    obtain ⟨o, hoi⟩ := ho i (.head _)
    simp only [Gp, hoi] at h
    obtain ⟨hd, hs, h⟩ := h
    have hslot : Yt ops i = o.dst := by simp [Yt, hoi]
    obtain ⟨v, hv, hr⟩ : ∃ v, ((Region.wanted o (yielded ops a.tmps) = true ∧ ∀ w, (execOp a.eval o).run P w = .ok (.value v) w) ∨ (Region.wanted o (yielded ops a.tmps) = false ∧ v = undef)) ∧ Gp P ops Qn l (a.put o.dst v) := by
      by_cases hw : Region.wanted o (yielded ops a.tmps) = true
      · rw [if_pos hw] at h; obtain ⟨v, h1, h2⟩ := h; exact ⟨v, .inl ⟨hw, h1⟩, h2⟩
      · rw [if_neg hw] at h; exact ⟨undef, .inr ⟨by simpa using hw, rfl⟩, h⟩
    have hn' := List.nodup_cons.1 hn
    obtain ⟨vs, g1, g2⟩ := Zb9 l _ hn'.2 (fun j hj => ho j (.tail _ hj)) hr
    let vs' : Nat → Value := fun j => if j = i then v else vs j
    have ei : vs' i = v := by simp [vs']
    have ee : ∀ (l' : List Nat) (b : Act), i ∉ l' → Xe ops vs' l' b = Xe ops vs l' b := fun l' b hni => Z0e l' b fun j hj => by
      have : j ≠ i := by rintro rfl; exact hni hj
      simp [vs', this]
    refine ⟨vs', fun pre j post e => ?_, ?_⟩
    · cases pre with
      | nil => simp only [List.nil_append, List.cons.injEq] at e; obtain ⟨rfl, rfl⟩ := e; exact ⟨o, hoi, hd, hs, by rw [ei]; exact hv⟩
      | cons q pre =>
        simp only [List.cons_append, List.cons.injEq] at e
        obtain ⟨rfl, rfl⟩ := e
        have h1 := g1 pre j post rfl
        have hni : i ∉ pre := fun hm => hn'.1 (List.mem_append_left _ hm)
        have hji : j ≠ i := by rintro rfl; exact hn'.1 (by simp)
        simp only [Xe]
        rw [ei, hslot, ee pre _ hni]
        obtain ⟨o', a1, a2, a3, a4⟩ := h1
        have evj : vs' j = vs j := by simp [vs', hji]
        exact ⟨o', a1, a2, a3, by rw [evj]; exact a4⟩
    · simp only [Xe]; rw [ei, hslot, ee l _ hn'.1]; exact g2
theorem Za4 {m : Nat} {vs : Nat → Value} {a0 : Act} : ∀ (l : List Nat) (done : Nat → Bool) (a : Act), (∀ i, i ∈ l → i < m ∧ ∃ d, Yt ops i = some d ∧ ∀ j, j < m → j ≠ i → Yt ops j ≠ some d) →
    DoneQ ops m vs a0 done a → DoneQ ops m vs a0 (fun q => done q || l.any (Nat.beq q)) (Xe ops vs l a)
  | [], done, a, _, h => by simpa [Xe] using h
  | i :: l, done, a, hu, h => by
    obtain ⟨hi, d, hd, hud⟩ := hu i (.head _)
    have h1 := h.put hi hd hud
    have h2 := Za4 l _ _ (fun j hj => hu j (.tail _ hj)) h1
    simp only [Xe]
    rw [hd]
    have e : (fun q : Nat => (if q = i then true else done q) || l.any (Nat.beq q)) = fun q => done q || (i :: l).any (Nat.beq q) := by
      funext q
      by_cases c : q = i
      · subst c; simp
      · have : Nat.beq q i = false := by
          cases hb : Nat.beq q i with
          | true => exact absurd (Nat.eq_of_beq_eq_true hb) c
          | false => rfl
        simp [c, this]
    rw [← e]; exact h2
theorem DoneQ.eq {m : Nat} {vs : Nat → Value} {a0 a b : Act} {da db : Nat → Bool} (hA : DoneQ ops m vs a0 da a) (hB : DoneQ ops m vs a0 db b) (ha : ∀ j, j < m → da j = true) (hb : ∀ j, j < m → db j = true) : a = b := by
 have e1 : a.tmps = b.tmps := by
  apply Array.ext_getElem?
  intro t
  by_cases c : ∃ j, j < m ∧ Yt ops j = some t
  ·
   obtain ⟨j, hj, hsj⟩ := c
   by_cases hlt : t < a0.tmps.size
   · rw [hA.has j t hj (ha j hj) hsj hlt, hB.has j t hj (hb j hj) hsj hlt]
   · rw [Array.getElem?_eq_none (by rw [hA.size]; omega), Array.getElem?_eq_none (by rw [hB.size]; omega)]
  ·
   have hn : ∀ j, j < m → Yt ops j ≠ some t := fun j hj hsj => c ⟨j, hj, hsj⟩
   rw [hA.old t fun j hj _ => hn j hj, hB.old t fun j hj _ => hn j hj]
 have e2 : a.defers = b.defers := by rw [hA.defers, hB.defers]
 cases a; cases b; simp_all
theorem DoneQ.congr {m : Nat} {vs vs' : Nat → Value} {a0 a : Act} {da : Nat → Bool} (h : DoneQ ops m vs a0 da a) (he : ∀ j, j < m → da j = true → vs j = vs' j) : DoneQ ops m vs' a0 da a :=
 ⟨h.size, h.defers, fun j d hj hd hs hl => by rw [← he j hj hd]; exact h.has j d hj hd hs hl, h.old⟩
theorem Znx {F : Fence} {P : Program} {i : Nat} {o : Oper} {a b : Act} {w : World} {k1 k2 : Act → World → Prop} {f : FuncId} {vs : Array Value} (hF : ∀ f, F.fn f) (ho : ops[i]? = some o) (hnd : ∀ c, o.op ≠ .defer c) (hex : execOp a.eval o = execOp b.eval o)
    (hw : Region.wanted o (yielded ops a.tmps) = Region.wanted o (yielded ops b.tmps)) (hr : (execOp b.eval o).run P w = .ok (.enter f vs) w) (hk : ∀ v w', k1 (b.put o.dst v) w' → k2 (a.put o.dst v) w')
    (h : wpOpIn F 0 P ops (fun _ _ _ => False) i k1 b w) : wpOpIn F 0 P ops Q i k2 a w := by
  unfold wpOpIn at h ⊢
  rw [ho] at h ⊢
  simp only at h ⊢
  rw [hw]
  split
  · rename_i hwt
    simp only [hwt, if_true] at h
    refine ⟨fun f _ => hF f, ?_⟩
    have h := h.2
    rw [Oper.semAt_eq _ _ _ hnd] at h ⊢
    rw [hex]
    rw [hr] at h ⊢
    rw [Oper.uponIn_enter] at h ⊢
    refine ⟨h.1, CallsIn.mono h.2 fun e w'' he => ?_⟩
    cases e
    · exact hk _ _ he
    · exact he.elim
    · obtain ⟨_, _, h⟩ := he; exact h.elim
  · rename_i hwt
    simp only [hwt, if_false, Bool.false_eq_true] at h
    exact ⟨fun f _ => hF f, hk _ _ h.2⟩
def callB (P : Program) (ops : Array Oper) (c : Nat) : Bool := match ops[c]? with
  | some ⟨some _, .call ⟨.value (.func f), _, _⟩, _, _, _, _⟩ => Zx P f
  | _ => false
theorem Ziy {P : Program} {c : Nat} {a : Act} {w : World} (h : callB P ops c = true) : ∃ o f vs, ops[c]? = some o ∧ (∀ c, o.op ≠ .defer c) ∧ (∀ cs b, o.op ≠ .select cs b) ∧ (execOp a.eval o).run P w = .ok (.enter f vs) w := by
 unfold callB at h
 split at h
 ·
  rename_i d f xs at' ty pos af g ho
  refine ⟨_, f, xs.map a.eval, ho, by simp, by simp, ?_⟩
  simp [execOp, resolve, Deferred.ofValue, invoke, Act.eval, Z1h h]
 · cases h
theorem Zi4 (q : Nat) : Nat.beq q q = true := by simp
theorem any_mem {l : List Nat} {q : Nat} : l.any (Nat.beq q) = true ↔ q ∈ l := by
 rw [List.any_eq_true]
 constructor
 · rintro ⟨x, hx, h⟩; rw [Nat.eq_of_beq_eq_true h]; exact hx
 · intro h; exact ⟨q, h, Zi4 q⟩
theorem Z6z {m : Nat} : ∀ {l pre : List Nat}, setB ops m pre l = true → ∀ p i post, l = p ++ i :: post → i < m ∧ i ∉ pre ∧ i ∉ p ∧ ∃ o d, ops[i]? = some o ∧ o.dst = some d ∧ Yt ops i = some d ∧ (∀ j, j < m → j ≠ i → Yt ops j ≠ some d) ∧
    ∀ t, t ∈ o.looksAt ops → ∀ j, j < m → Yt ops j = some t → (j ∈ pre ∨ j ∈ p) ∧ Wl ops ops.size i j = true
  | [], pre, _, p, i, post, e => by simp at e
  | q :: l, pre, h, p, i, post, e => by
    simp only [setB, Bool.and_eq_true] at h
    obtain ⟨⟨⟨h1, h2⟩, h3⟩, h4⟩ := h
    have hq : q ∉ pre := fun hm => by rw [any_mem.2 hm] at h2; simp at h2
    cases p with
    | nil =>
      simp only [List.nil_append, List.cons.injEq] at e
      obtain ⟨rfl, rfl⟩ := e
      refine ⟨by simpa using h1, hq, by simp, ?_⟩
      cases ho : ops[q]? with
      | none => rw [ho] at h3; simp at h3
      | some o =>
        rw [ho] at h3
        simp only [Bool.and_eq_true] at h3
        cases hd : o.dst with
        | none => rw [hd] at h3; simp at h3
        | some d =>
          rw [hd] at h3
          refine ⟨o, d, rfl, hd, by simp [Yt, ho, hd], fun j hj hji he => ?_, fun t htl j hj hsj => ?_⟩
          · have h5 := List.all_eq_true.1 h3.1 j (List.mem_range.2 hj)
            simp only [Bool.or_eq_true] at h5
            rcases h5 with h5 | h5
            · exact hji (Nat.eq_of_beq_eq_true h5)
            · rw [he] at h5; simp at h5
          · have h5 := List.all_eq_true.1 (List.all_eq_true.1 h3.2 t htl) j (List.mem_range.2 hj)
            simp only [Bool.or_eq_true, Bool.and_eq_true] at h5
            rcases h5 with h5 | h5
            · rw [hsj] at h5; simp at h5
            · exact ⟨.inl (any_mem.1 h5.1), h5.2⟩
    | cons r p =>
      simp only [List.cons_append, List.cons.injEq] at e
      obtain ⟨rfl, rfl⟩ := e
      obtain ⟨a1, a2, a3, o, d, a4, a5, a6, a7, a8⟩ := Z6z h4 p i post rfl
      refine ⟨a1, fun hm => a2 (.tail _ hm), fun hm => ?_, o, d, a4, a5, a6, a7, fun t ht j hj hs => ?_⟩
      · rcases List.mem_cons.1 hm with h | h
        · exact a2 (h ▸ .head _)
        · exact a3 h
      · obtain ⟨b1, b2⟩ := a8 t ht j hj hs
        refine ⟨?_, b2⟩
        rcases b1 with b1 | b1
        · rcases List.mem_cons.1 b1 with rfl | b1
          · exact .inr (.head _)
          · exact .inl b1
        · exact .inr (.tail _ b1)
theorem Zax : ∀ {l : List Nat}, (∀ p i post, l = p ++ i :: post → i ∉ p) → l.Nodup
 | [], _ => List.nodup_nil
 | i :: l, h => by
  refine List.nodup_cons.2 ⟨fun hm => ?_, Zax fun p j post e hj => h (i :: p) j post (by rw [e]; rfl) (.tail _ hj)⟩
  obtain ⟨p, post, e⟩ := List.append_of_mem hm
  exact h (i :: p) i post (by rw [e]; rfl) (.head _)
def NQ (Q : Exit → Act → World → Prop) : Exit → Act → World → Prop := fun e a w => match e with
  | .normal => Q .normal a w
  | _ => False
theorem Ly (h : X C Q .normal E H) : X C (NQ Q) .normal E H := h
theorem Z75 (h : LetsOut (NQ Q)) : False := by obtain ⟨_, _, h⟩ := h; exact h
theorem Zfg {F : Fence} {n : Nat} {P : Program} {i : Nat} {k : Act → World → Prop} {a : Act} {w : World} (h : wpOpIn F n P ops (NQ Q) i k a w) : wpOpIn F n P ops Q i k a w := by
 unfold wpOpIn at h ⊢
 split
 · rename_i ho; rw [ho] at h; exact h
 ·
  rename_i o ho
  rw [ho] at h
  simp only at h
  split
  ·
   rename_i hw
   rw [if_pos hw] at h
   unfold Oper.wpIn at h ⊢
   refine ⟨h.1, ?_⟩
   have h := h.2
   generalize (o.semAt F.round a.eval).run P w = r at h ⊢
   cases r with
   | ok x w' =>
    cases x <;> simp only [Oper.uponIn] at h ⊢ <;>
     first
      | exact h
      | exact ⟨h.1, CallsIn.mono h.2 (fun e w'' he => by cases e <;> first | exact he | exact he.elim | exact (Z75 he).elim)⟩
      | exact ⟨h.1, RoundIn.mono h.2 (fun e w'' he => by cases e <;> first | exact he | exact he.elim | exact (Z75 he).elim)⟩
   | halt x w' => cases x <;> simp only [Oper.uponIn] at h ⊢ <;> first | exact h | exact h.elim | exact (Z75 h).elim
  ·
   rename_i hw
   rw [if_neg hw] at h
   exact h
theorem Zbe {id : Nat} (l1 l2 : List Nat) (c m : Nat) (hm : C.P.follows .mixedOrders = true) (hb : Nn ops = true) (hsz : Nat.beq ops.size (m + 1) = true) (s1 : setB ops m [] (l1 ++ l2) = true) (s2 : setB ops m l1 [c] = true)
    (s3 : (l1.all fun j => Wl ops ops.size c j) = true) (s4 : ((List.range m).all fun j => Wl ops ops.size m j) = true) (s5 : ((List.range m).all fun j => Nat.beq j c || (l1 ++ l2).any (Nat.beq j)) = true) (s6 : (!(l2.any (Nat.beq c))) = true) (s7 : callB C.P ops c = true)
    (k : TQ C ops (fun a1 => Gp C.P ops (fun a2 => ∀ w, Inv C.w0 C.M w H → wpOpsIn (FW C.ρ) 0 C.P ops (NQ Q) [c, m] a2 w) l2 a1) l1 E H) : T C (.region id ops true) Q E H := by
  intro a0 w0 hf0 hi0
  have hsz := Nat.eq_of_beq_eq_true hsz
  have g1 := fun p i post e => Z6z (l := l1 ++ l2) s1 p i post e
  obtain ⟨hcm, hc1, -, oc, dc, hoc, hdc, hsc, huc, hlc⟩ := Z6z (l := [c]) s2 [] c [] rfl
  have hc2 : c ∉ l2 := fun h => by rw [any_mem.2 h] at s6; simp at s6
  have hnd : (l1 ++ l2).Nodup := Zax fun p i post e => (g1 p i post e).2.2.1
  have hops : ∀ i, i ∈ l1 ++ l2 → i < m ∧ (∃ o, ops[i]? = some o) ∧ ∃ d, Yt ops i = some d ∧ ∀ j, j < m → j ≠ i → Yt ops j ≠ some d := fun i hi => by
    obtain ⟨p, post, e⟩ := List.append_of_mem hi
    obtain ⟨h1, -, -, o, d, h2, h3, h4, h5, -⟩ := g1 p i post e
    exact ⟨h1, ⟨o, h2⟩, d, h4, h5⟩
  obtain ⟨hn1, hn2, hdis⟩ := List.nodup_append.1 hnd
  obtain ⟨vs1, hst1, hend1⟩ := Za8 l1 a0 hn1 (fun i hi => (hops i (List.mem_append_left _ hi)).2.1) (k a0 hf0)
  obtain ⟨vs2, hst2, hend2⟩ := Zb9 l2 _ hn2 (fun i hi => (hops i (List.mem_append_right _ hi)).2.1) hend1
  let vs : Nat → Value := fun j => if j ∈ l1 then vs1 j else vs2 j
  have ev1 : ∀ j, j ∈ l1 → vs j = vs1 j := fun j hj => by simp [vs, hj]
  have ev2 : ∀ j, j ∈ l2 → vs j = vs2 j := fun j hj => by
    have : j ∉ l1 := fun h => hdis j h j hj rfl
    simp [vs, this]
  have eA : ∀ p : List Nat, (∀ j, j ∈ p → j ∈ l1) → ∀ a, Xe ops vs1 p a = Xe ops vs p a := fun p hp a => Z0e p a fun j hj => (ev1 j (hp j hj)).symm
  have eB : ∀ p : List Nat, (∀ j, j ∈ p → j ∈ l2) → ∀ a, Xe ops vs2 p a = Xe ops vs p a := fun p hp a => Z0e p a fun j hj => (ev2 j (hp j hj)).symm
  have hstep : ∀ p i post, l1 ++ l2 = p ++ i :: post → StepQ C.P ops (fun w => Inv C.w0 C.M w H) vs i (Xe ops vs p a0) ∧ (i ∈ l2 → StepU C.P ops vs i (Xe ops vs p a0)) := by
    intro p i post e
    rcases List.append_eq_append_iff.1 e with ⟨q, e1, e2⟩ | ⟨q, e1, e2⟩
    · -- p = l1 ++ q
      have hq : ∀ j, j ∈ q → j ∈ l2 := fun j hj => by rw [e2]; exact List.mem_append_left _ hj
      have hi : i ∈ l2 := by rw [e2]; simp
      have h := hst2 q i post e2
      have : StepU C.P ops vs i (Xe ops vs p a0) := by
        rw [e1, Z2t, ← eA l1 (fun _ h => h), ← eB q hq]
        obtain ⟨o, a1, a2, a3, a4⟩ := h
        exact ⟨o, a1, a2, a3, by rw [ev2 i hi]; exact a4⟩
      exact ⟨this.q, fun _ => this⟩
    · cases q with
      | nil =>
        simp only [List.append_nil, List.nil_append] at e1 e2
        have hi : i ∈ l2 := by rw [← e2]; simp
        have h := hst2 [] i post e2.symm
        have : StepU C.P ops vs i (Xe ops vs p a0) := by
          rw [← e1, ← eA l1 (fun _ h => h)]
          obtain ⟨o, a1, a2, a3, a4⟩ := h
          exact ⟨o, a1, a2, a3, by rw [ev2 i hi]; exact a4⟩
        exact ⟨this.q, fun _ => this⟩
      | cons r q =>
        simp only [List.cons_append, List.cons.injEq] at e2
        obtain ⟨rfl, rfl⟩ := e2
        have hp : ∀ j, j ∈ p → j ∈ l1 := fun j hj => by rw [e1]; exact List.mem_append_left _ hj
        have hi : i ∈ l1 := by rw [e1]; simp
        have h := hst1 p i q e1
        refine ⟨?_, fun h2 => absurd rfl (hdis i hi i h2)⟩
        rw [← eA p hp]
        obtain ⟨o, a1, a2, a3, a4⟩ := h
        exact ⟨o, a1, a2, a3, by rw [ev1 i hi]; exact a4⟩
  rw [eA l1 (fun _ h => h), eB l2 (fun _ h => h), ← Z2t] at hend2
  have hbase : DoneQ ops m vs a0 (fun _ => false) a0 := ⟨rfl, rfl, fun j d _ h => by simp at h, fun t _ => rfl⟩
  have hpre : ∀ p post, l1 ++ l2 = p ++ post → DoneQ ops m vs a0 (fun q => p.any (Nat.beq q)) (Xe ops vs p a0) := fun p post e => by
    have := Za4 (vs := vs) p _ _ (fun i hi => by
      obtain ⟨h1, -, h2⟩ := hops i (by rw [e]; exact List.mem_append_left _ hi)
      exact ⟨h1, h2⟩) hbase
    simpa using this
  have hfull := hpre (l1 ++ l2) [] (by simp)
  have quiet : ∀ (done : Nat → Bool) (i : Nat) (o : Oper) (a : Act) (vs' : Nat → Value), i ∈ l1 ++ l2 → ops[i]? = some o → (∀ j, j ≠ c → vs' j = vs j) → DoneQ ops m vs' a0 done a → (∀ j, Wl ops ops.size i j = true → done j = true) →
      ∃ d p post, o.dst = some d ∧ l1 ++ l2 = p ++ i :: post ∧ (execOp a.eval o = execOp (Xe ops vs p a0).eval o ∨ ∃ cs b, o.op = .select cs b) ∧ Region.wanted o (yielded ops a.tmps) = Region.wanted o (yielded ops (Xe ops vs p a0).tmps) ∧ DoneQ ops m vs' a0 (fun q => if q = i then true else done q) (a.put (some d) (vs i)) := by
    intro done i o a vs' hi ho hvs hD hreach
    obtain ⟨p, post, e⟩ := List.append_of_mem hi
    obtain ⟨him, -, -, o', d, ho', hd, hs, hu, hl⟩ := g1 p i post e
    rw [ho] at ho'; injection ho' with ho'; subst ho'
    have hni : i ≠ c := by rintro rfl; exact (List.mem_append.1 hi).elim (fun h => hc1 h) (fun h => hc2 h)
    have hnotc : ∀ t, t ∈ o.looksAt ops → Yt ops c ≠ some t := fun t ht hsct => by
      obtain ⟨h1, -⟩ := hl t ht c hcm hsct
      rcases h1 with h1 | h1
      · simp at h1
      · have : c ∈ l1 ++ l2 := by rw [e]; exact List.mem_append_left _ h1
        exact (List.mem_append.1 this).elim (fun h => hc1 h) (fun h => hc2 h)
    have hD2 : DoneQ ops m vs a0 (fun q => done q && !(Nat.beq q c)) { a with tmps := a.tmps.setIfInBounds dc (a0.tmps.getD dc undef) } := by
      refine ⟨by simpa using hD.size, hD.defers, fun j e' hj hdj hsj hlt => ?_, fun t ht => ?_⟩
      · simp only [Bool.and_eq_true, Bool.not_eq_true'] at hdj
        have hjc : j ≠ c := by rintro rfl; simp at hdj
        have hne : dc ≠ e' := by rintro rfl; exact huc j hj hjc hsj
        simp only [Array.getElem?_setIfInBounds, if_neg hne]
        rw [hD.has j e' hj hdj.1 hsj hlt, hvs j hjc]
      · simp only [Array.getElem?_setIfInBounds]
        by_cases hte : dc = t
        · subst hte
          rw [if_pos rfl]
          by_cases hlt : dc < a.tmps.size
          · rw [if_pos hlt, Array.getD_eq_getD_getElem?, Array.getElem?_eq_getElem (by rw [← hD.size]; exact hlt)]; rfl
          · rw [if_neg hlt]; exact (Array.getElem?_eq_none (Nat.le_of_not_lt fun h => hlt (by rw [hD.size]; exact h))).symm
        · rw [if_neg hte]
          refine hD.old t fun j hj hdj hsj => ?_
          by_cases hjc : j = c
          · subst hjc; rw [hsc] at hsj; injection hsj with hsj; exact hte hsj
          · have hb' : Nat.beq j c = false := by
              cases hbb : Nat.beq j c with
              | true => exact absurd (Nat.eq_of_beq_eq_true hbb) hjc
              | false => rfl
            exact ht j hj (by simp [hdj, hb']) hsj
    have hA := hpre p (i :: post) e
    obtain ⟨hev, hwt⟩ := Z29 hD2 hA (o := o) (fun t htl j hj hsj => by
      obtain ⟨h1, h2⟩ := hl t htl j hj hsj
      have hjp : j ∈ p := by exact h1.elim (fun h1 => by simp at h1) (fun h1 => h1)
      have hjc : j ≠ c := by rintro rfl; exact hnotc t htl hsj
      have hb' : Nat.beq j c = false := by
        cases hbb : Nat.beq j c with
        | true => exact absurd (Nat.eq_of_beq_eq_true hbb) hjc
        | false => rfl
      exact ⟨by simp [hreach j h2, hb'], any_mem.2 hjp⟩)
    have hlook : ∀ t, t ∈ o.looksAt ops → ({ a with tmps := a.tmps.setIfInBounds dc (a0.tmps.getD dc undef) } : Act).tmps[t]? = a.tmps[t]? := fun t ht => by
      have : dc ≠ t := by rintro rfl; exact hnotc dc ht hsc
      simp only [Array.getElem?_setIfInBounds, if_neg this]
    have hev2 : ∀ x, x ∈ o.op.operands → a.eval x = ({ a with tmps := a.tmps.setIfInBounds dc (a0.tmps.getD dc undef) } : Act).eval x := fun x hx => by
      cases x with
      | tmp t => exact Zfl (hlook t (List.mem_append_left _ (List.mem_filterMap.2 ⟨.tmp t, by simpa using hx, rfl⟩))).symm
      | const v => rfl
      | global g => rfl
      | func f => rfl
    have hwt2 : Region.wanted o (yielded ops a.tmps) = Region.wanted o (yielded ops (a.tmps.setIfInBounds dc (a0.tmps.getD dc undef))) := by
      unfold Region.wanted
      cases hg : o.guard with
      | none => rfl
      | some gw =>
        obtain ⟨g, want⟩ := gw
        have : yielded ops a.tmps g = yielded ops (a.tmps.setIfInBounds dc (a0.tmps.getD dc undef)) g := by
          unfold yielded
          cases ht : (ops[g]?).bind (·.dst) with
          | none => rfl
          | some t =>
            have := hlook t (List.mem_append_right _ (by rw [hg]; simp [ht]))
            simp only [Option.bind_some]
            simp only at this
            rw [this]
        simp only [this]
    refine ⟨d, p, post, hd, e, ?_, hwt2.trans hwt, ?_⟩
    · by_cases hsel : ∃ cs b, o.op = .select cs b
      · exact .inr hsel
      · exact .inl (execOp_congr o (fun cs b h => hsel ⟨cs, b, h⟩) fun x hx => (hev2 x hx).trans (hev x hx))
    · have := hD.put him hs hu
      rw [hvs i hni] at this
      exact this
  have hmreach : ∀ j, j < m → Wl ops ops.size m j = true := fun j hj => List.all_eq_true.1 s4 j (List.mem_range.2 hj)
  have hcover : ∀ j, j < m → j = c ∨ j ∈ l1 ++ l2 := fun j hj => by
    have := List.all_eq_true.1 s5 j (List.mem_range.2 hj)
    simp only [Bool.or_eq_true] at this
    rcases this with h | h
    · exact .inl (Nat.eq_of_beq_eq_true h)
    · exact .inr (any_mem.1 h)
  have hclosed : ∀ (done : Nat → Bool) (i : Nat) (o : Oper), Kj ops done → ops[i]? = some o → (∀ e, e ∈ o.after → Region.binds .any e = true → done e.on = true) → Kj ops (fun q => if q = i then true else done q) := by
    intro done i o hc ho hd j o' ho' hj e he hbe
    show (if e.on = i then true else done e.on) = true
    by_cases hei : e.on = i
    · rw [if_pos hei]
    · rw [if_neg hei]
      by_cases hji : j = i
      · subst hji; rw [ho] at ho'; injection ho' with ho'; subst ho'; exact hd e he hbe
      · have hj' : done j = true := by simpa [hji] using hj
        exact hc j o' ho' hj' e he hbe
  refine wpIn_region_any hm (Zb8 (J := fun done a w => Kj ops done ∧
      ((done c = false ∧ done m = false ∧ DoneQ ops m vs a0 done a ∧ Inv C.w0 C.M w H) ∨
       (done c = true ∧ done m = false ∧ (∀ j, j ∈ l1 → done j = true) ∧ ∃ v, DoneQ ops m (fun j => if j = c then v else vs j) a0 done a ∧ wpOpsIn (FW C.ρ) 0 C.P ops (NQ Q) [m] ((Xe ops vs (l1 ++ l2) a0).put (some dc) v) w) ∨
       (done m = true ∧ done c = true ∧ Q .normal a w)))
    hb ?_ ?_ ops.size (Array.replicate ops.size false) a0 _ (by simp) ?_ ?_)
  · rintro done i o a w ho hdi hd ⟨hc, hJ⟩
    have hi : i < ops.size := (Array.getElem?_eq_some_iff.1 ho).1
    have hreach : ∀ j, Wl ops ops.size i j = true → done j = true := fun j hj => Gx hc _ i j hj (fun o' ho' => by rw [ho] at ho'; injection ho' with ho'; subst ho'; exact hd)
    have hcl := hclosed done i o hc ho hd
    by_cases him : i = m
    · subst him
      have hall : ∀ j, j < i → done j = true := fun j hj => hreach j (hmreach j hj)
      rcases hJ with ⟨h1, -⟩ | ⟨h1, -, -, v, hD, hw⟩ | ⟨h1, -⟩
      · rw [hall c hcm] at h1; cases h1
      · have ea : a = (Xe ops vs (l1 ++ l2) a0).put (some dc) v := by
          have h2 : DoneQ ops i (fun j => if j = c then v else vs j) a0 (fun q => (l1 ++ l2).any (Nat.beq q)) (Xe ops vs (l1 ++ l2) a0) := hfull.congr fun j _ hj => by
            have hjc : j ≠ c := by rintro rfl; exact (List.mem_append.1 (any_mem.1 hj)).elim (fun h => hc1 h) (fun h => hc2 h)
            simp [hjc]
          have h3 := h2.put hcm hsc huc
          simp only [if_true] at h3
          refine hD.eq h3 hall fun j hj => ?_
          rcases hcover j hj with rfl | h
          · simp
          · simp [any_mem.2 h]
        rw [← ea, wpOpsIn_cons] at hw
        exact wpOpIn_mono (fun a' w' hw' => ⟨hcl, .inr (.inr ⟨by simp, by simp [h1], hw'⟩)⟩) (Zfg hw)
      · rw [hdi] at h1; cases h1
    have hilt : i < m := by omega
    have dmi : ∀ {b : Bool}, done m = b → (if m = i then true else done m) = b := fun h => by rw [if_neg (fun h => him h.symm)]; exact h
    by_cases hic : i = c
    · subst hic
      rcases hJ with ⟨-, hdm, hD, hinv⟩ | ⟨h1, -⟩ | ⟨-, h1, -⟩
      · rw [hoc] at ho; injection ho with ho; subst ho
        obtain ⟨o', f, xs, ho', hnd, hns, hrun⟩ := Ziy (a := Xe ops vs (l1 ++ l2) a0) (w := w) s7
        rw [hoc] at ho'; injection ho' with ho'; subst ho'
        have hw := hend2 w hinv
        rw [wpOpsIn_cons] at hw
        obtain ⟨hev, hwt⟩ := Z29 hD hfull (o := oc) (fun t htl j hj hsj => by
          obtain ⟨h1, h2⟩ := hlc t htl j hj hsj
          have : j ∈ l1 := by exact h1.elim (fun h1 => h1) (fun h1 => by simp at h1)
          exact ⟨hreach j h2, any_mem.2 (List.mem_append_left _ this)⟩)
        refine Znx (fun _ => trivial) hoc hnd (execOp_congr oc hns hev) hwt hrun ?_ hw
        intro v w' hk
        refine ⟨hcl, .inr (.inl ⟨by simp, dmi hdm, fun j hj => ?_, v, ?_, ?_⟩)⟩
        · show (if j = i then true else done j) = true
          split
          · rfl
          · exact hreach j (List.all_eq_true.1 s3 j hj)
        · have h2 : DoneQ ops m (fun j => if j = i then v else vs j) a0 done a := hD.congr fun j hj hdj => by
            have : j ≠ i := by rintro rfl; rw [hdi] at hdj; cases hdj
            simp [this]
          have := h2.put hcm hsc huc
          simp only [if_true] at this
          rw [hdc]; exact this
        · rw [hdc] at hk; exact hk
      · rw [hdi] at h1; cases h1
      · rw [hdi] at h1; cases h1
    have hil : i ∈ l1 ++ l2 := by
      rcases hcover i hilt with h | h
      · exact absurd h hic
      · exact h
    have dci : ∀ {b : Bool}, done c = b → (if c = i then true else done c) = b := fun h => by rw [if_neg (fun h => hic h.symm)]; exact h
    rcases hJ with ⟨hdc', hdm, hD, hinv⟩ | ⟨hdc', hdm, hl1, v, hD, hw⟩ | ⟨hdm, -⟩
    · obtain ⟨d, p, post, hd', e, hex, hwt, hput⟩ := quiet done i o a vs hil ho (fun _ _ => rfl) hD hreach
      obtain ⟨o', ho', hnd', hns', hval⟩ := (hstep p i post e).1
      rw [ho] at ho'; injection ho' with ho'; subst ho'
      have hex : execOp a.eval o = execOp (Xe ops vs p a0).eval o := hex.resolve_right fun ⟨cs, b, h⟩ => hns' cs b h
      unfold wpOpIn
      rw [ho]
      simp only
      rw [hwt]
      rcases hval with ⟨hw, hq⟩ | ⟨hw, hq⟩
      · rw [hw]
        simp only [if_true]
        refine ⟨fun _ _ => trivial, ?_⟩
        rw [Oper.semAt_eq _ _ _ hnd', hex]
        have hq := hq w hinv
        generalize (execOp (Xe ops vs p a0).eval o).run C.P w = r at hq
        cases r with
        | ok x w' =>
          cases x <;> simp only [Jq] at hq
          case value u =>
            obtain ⟨rfl, rfl⟩ := hq
            show _ ∧ _
            refine ⟨hcl, .inl ⟨dci hdc', dmi hdm, ?_, hinv⟩⟩
            rw [hd']; exact hput
          case enter f args =>
            obtain ⟨rfl, hcall⟩ := hq
            refine ⟨by simp [FW], callsIn_FW.2 (Calls.mono hcall ?_)⟩
            rintro e w'' ⟨rfl, hK⟩
            show _ ∧ _
            refine ⟨hcl, .inl ⟨dci hdc', dmi hdm, ?_, hK⟩⟩
            rw [hd']; exact hput
        | halt x w' => simp only [Jq] at hq
      · rw [hw]
        simp only [Bool.false_eq_true, if_false]
        refine ⟨fun _ _ => trivial, hcl, .inl ⟨dci hdc', dmi hdm, ?_, hinv⟩⟩
        rw [hd', ← hq]; exact hput
    · obtain ⟨d, p, post, hd', e, hex, hwt, hput⟩ := quiet done i o a _ hil ho (fun j hj => by simp [hj]) hD hreach
      have hi2 : i ∈ l2 := by
        rcases List.mem_append.1 hil with h | h
        · rw [hl1 i h] at hdi; cases hdi
        · exact h
      obtain ⟨o', ho', hnd', hns', hval⟩ := (hstep p i post e).2 hi2
      rw [ho] at ho'; injection ho' with ho'; subst ho'
      have hex : execOp a.eval o = execOp (Xe ops vs p a0).eval o := hex.resolve_right fun ⟨cs, b, h⟩ => hns' cs b h
      have fin : (fun a' w' => Kj ops (fun q => if q = i then true else done q) ∧
          (((if c = i then true else done c) = false ∧ (if m = i then true else done m) = false ∧ DoneQ ops m vs a0 (fun q => if q = i then true else done q) a' ∧ Inv C.w0 C.M w' H) ∨
           ((if c = i then true else done c) = true ∧ (if m = i then true else done m) = false ∧ (∀ j, j ∈ l1 → (if j = i then true else done j) = true) ∧ ∃ v, DoneQ ops m (fun j => if j = c then v else vs j) a0 (fun q => if q = i then true else done q) a' ∧ wpOpsIn (FW C.ρ) 0 C.P ops (NQ Q) [m] ((Xe ops vs (l1 ++ l2) a0).put (some dc) v) w') ∨
           ((if m = i then true else done m) = true ∧ (if c = i then true else done c) = true ∧ Q .normal a' w'))) (a.put o.dst (vs i)) w := by
        refine ⟨hcl, .inr (.inl ⟨dci hdc', dmi hdm, fun j hj => ?_, v, ?_, hw⟩)⟩
        · split
          · rfl
          · exact hl1 j hj
        · rw [hd']; exact hput
      unfold wpOpIn
      rw [ho]
      simp only
      rw [hwt]
      rcases hval with ⟨hw', hq⟩ | ⟨hw', hq⟩
      · rw [hw']
        simp only [if_true]
        refine ⟨fun _ _ => trivial, ?_⟩
        rw [Oper.semAt_eq _ _ _ hnd', hex, hq w]
        exact fin
      · rw [hw']
        simp only [Bool.false_eq_true, if_false]
        refine ⟨fun _ _ => trivial, ?_⟩
        rw [← hq]; exact fin
    · exfalso
      have := Gx hc ops.size m i (hmreach i hilt) (fun o' ho' e he hbe => hc m o' ho' hdm e he hbe)
      rw [hdi] at this; cases this
  · rintro done a w hall ⟨hc, hJ⟩
    rcases hJ with ⟨h1, -⟩ | ⟨-, h1, -⟩ | ⟨-, -, h⟩
    · rw [hall c (by omega)] at h1; cases h1
    · rw [hall m (by omega)] at h1; cases h1
    · exact h
  · have : ((List.range ops.size).filter (fun i => !(Array.replicate ops.size false).getD i true)).length ≤ (List.range ops.size).length := List.length_filter_le _ _
    simpa using this
  · have hf : (fun q => (Array.replicate ops.size false).getD q false) = fun _ => false := by
      funext q
      simp only [Array.getD_eq_getD_getElem?, Array.getElem?_replicate]
      split <;> rfl
    rw [hf]
    exact ⟨fun i o _ h => by simp at h, .inl ⟨rfl, rfl, hbase, hi0.ofHeap rfl rfl rfl rfl⟩⟩
def Rb (o : Oper) : Bool := match o with
  | ⟨none, .store _ _ _, _, _, _, _⟩ => true
  | _ => false
theorem Zbz {o : Oper} (h : Rb o = true) : (∀ c, o.op ≠ .defer c) ∧ (∀ cs b, o.op ≠ .select cs b) := by
 unfold Rb at h
 split at h
 · exact ⟨by simp, by simp⟩
 · cases h
theorem Zef {P : Program} {ρ : Operand → Value} {o : Oper} {w : World} (h : Rb o = true) : o.dst = none ∧ ((∃ w', (execOp ρ o).run P w = .ok .skip w') ∨ ∃ e w', (execOp ρ o).run P w = .halt e w') := by
 unfold Rb at h
 split at h
 ·
  rename_i t x y ty pos af g
  refine ⟨rfl, ?_⟩
  have : (execOp ρ ⟨none, .store t x y, ty, pos, af, g⟩) = (do Instr.storeAt t (ρ x) (ρ y); pure .skip) := rfl
  rw [this]
  cases e : (Instr.storeAt t (ρ x) (ρ y)).run P w with
  | ok u w' => exact .inl ⟨w', by simp [e]⟩
  | halt e' w' => exact .inr ⟨e', w', by simp [e]⟩
 · cases h
def setB2 (ops : Array Oper) (m : Nat) (pre : List Nat) (c : Nat) : Bool := !(pre.any (Nat.beq c)) && match ops[c]? with
  | none => false
  | some o => Rb o && (o.looksAt ops).all fun t => (List.range m).all fun j => !(Yt ops j == some t) || (pre.any (Nat.beq j) && Wl ops ops.size c j)
theorem Zej {m c : Nat} {pre : List Nat} (h : setB2 ops m pre c = true) (hc : c < m) : c ∉ pre ∧ ∃ o, ops[c]? = some o ∧ Yt ops c = none ∧ Rb o = true ∧ ∀ t, t ∈ o.looksAt ops → ∀ j, j < m → Yt ops j = some t → j ∈ pre ∧ Wl ops ops.size c j = true := by
 simp only [setB2, Bool.and_eq_true] at h
 obtain ⟨h2, h3⟩ := h
 refine ⟨fun hm => by rw [any_mem.2 hm] at h2; simp at h2, ?_⟩
 cases ho : ops[c]? with
 | none => rw [ho] at h3; simp at h3
 | some o =>
  rw [ho] at h3
  simp only [Bool.and_eq_true] at h3
  refine ⟨o, rfl, ?_, h3.1, fun t ht j hj hs => ?_⟩
  · simp [Yt, ho, (Zef (P := default) (ρ := fun _ => undef) (w := default) h3.1).1]
  ·
   have h5 := List.all_eq_true.1 (List.all_eq_true.1 h3.2 t ht) j (List.mem_range.2 hj)
   simp only [Bool.or_eq_true, Bool.and_eq_true] at h5
   rcases h5 with h5 | h5
   · rw [hs] at h5; simp at h5
   · exact ⟨any_mem.1 h5.1, h5.2⟩
theorem DoneQ.cut {m c : Nat} {vs : Nat → Value} {a0 a : Act} {done : Nat → Bool} (h : DoneQ ops m vs a0 done a) (hc : Yt ops c = none) : DoneQ ops m vs a0 (fun q => if q = c then true else done q) a :=
 ⟨h.size, h.defers, fun j d hj hd hs hl => h.has j d hj (by
  have : j ≠ c := by rintro rfl; rw [hc] at hs; cases hs
  simpa [this] using hd) hs hl, fun t ht => h.old t fun j hj hd => ht j hj (by
  by_cases e : j = c <;> simp [e, hd])⟩
theorem Zex {F : Fence} {P : Program} {i : Nat} {o : Oper} {a b : Act} {w : World} {k1 k2 : Act → World → Prop} (hF : ∀ f, F.fn f) (ho : ops[i]? = some o) (hst : Rb o = true) (hex : execOp a.eval o = execOp b.eval o)
    (hw : Region.wanted o (yielded ops a.tmps) = Region.wanted o (yielded ops b.tmps)) (hk : ∀ w', k1 b w' → k2 a w')
    (h : wpOpIn F 0 P ops (NQ Q) i k1 b w) : wpOpIn F 0 P ops Q i k2 a w := by
  obtain ⟨hnd, hns⟩ := Zbz hst
  obtain ⟨hdst, hrun⟩ := Zef (P := P) (ρ := b.eval) (w := w) hst
  unfold wpOpIn at h ⊢
  rw [ho] at h ⊢
  simp only at h ⊢
  rw [hw]
  split
  · rename_i hwt
    simp only [hwt, if_true] at h
    refine ⟨fun f _ => hF f, ?_⟩
    have h := h.2
    rw [Oper.semAt_eq _ _ _ hnd] at h ⊢
    rw [hex]
    rcases hrun with ⟨w', hr⟩ | ⟨e, w', hr⟩
    · rw [hr] at h ⊢
      rw [Oper.uponIn_skip, hdst] at h ⊢
      exact hk _ h
    · rw [hr] at h ⊢
      cases e <;> simp only [Oper.uponIn] at h ⊢ <;> first | exact h | exact h.elim | exact (Z75 h).elim
  · rename_i hwt
    simp only [hwt, if_false, Bool.false_eq_true] at h
    rw [hdst] at h ⊢
    exact ⟨fun f _ => hF f, hk _ h.2⟩
def ordB (ops : Array Oper) : List Nat → Bool
  | [] => true
  | x :: l => (l.all fun y => Wl ops ops.size y x && !(Nat.beq y x)) && !(l.any (Nat.beq x)) && ordB ops l
theorem Z3m : ∀ {l : List Nat}, ordB ops l = true → ∀ d1 q rest, l = d1 ++ q :: rest → (∀ i, i ∈ rest → Wl ops ops.size i q = true) ∧ q ∉ rest
 | [], _, d1, q, rest, e => by simp at e
 | x :: l, h, d1, q, rest, e => by
  simp only [ordB, Bool.and_eq_true] at h
  cases d1 with
  | nil =>
   simp only [List.nil_append, List.cons.injEq] at e
   obtain ⟨rfl, rfl⟩ := e
   refine ⟨fun i hi => ?_, fun hm => ?_⟩
   ·
    have := List.all_eq_true.1 h.1.1 i hi
    simp only [Bool.and_eq_true] at this
    exact this.1
   · have := h.1.2; rw [any_mem.2 hm] at this; simp at this
  | cons y d1 =>
   simp only [List.cons_append, List.cons.injEq] at e
   exact Z3m h.2 d1 q rest e.2
theorem Za1 {c : Nat} {cs : List Nat} (h : ordB ops (c :: cs) = true) : (∀ q, q ∈ cs → Wl ops ops.size q c = true) ∧ c ∉ cs ∧ ∀ d1 q rest, cs = d1 ++ q :: rest → ∀ i, i ∈ rest → Wl ops ops.size i q = true :=
 ⟨(Z3m h [] c cs rfl).1, (Z3m h [] c cs rfl).2, fun d1 q rest e => (Z3m h (c :: d1) q rest (by rw [e]; rfl)).1⟩
theorem Zjt {c q : Nat} {cs d1 rest : List Nat} (h : ordB ops (c :: cs) = true) (e : cs = d1 ++ q :: rest) : q ∉ rest := (Z3m h (c :: d1) q rest (by rw [e]; rfl)).2
theorem DoneQ.cuts {m : Nat} {vs : Nat → Value} {a0 a : Act} : ∀ (cs : List Nat) {done : Nat → Bool}, DoneQ ops m vs a0 done a → (∀ q, q ∈ cs → Yt ops q = none) → DoneQ ops m vs a0 (fun q => done q || cs.any (Nat.beq q)) a
 | [], done, h, _ => by simpa using h
 | c :: cs, done, h, hc => by
  have h1 := (h.cut (hc c (.head _))).cuts cs fun q hq => hc q (.tail _ hq)
  have e : (fun q : Nat => (if q = c then true else done q) || cs.any (Nat.beq q)) = fun q => done q || (c :: cs).any (Nat.beq q) := by
   funext q
   by_cases k : q = c
   · subst k; simp
   ·
    have : Nat.beq q c = false := by
     cases hb : Nat.beq q c with
     | true => exact absurd (Nat.eq_of_beq_eq_true hb) k
     | false => rfl
    simp [k, this]
  rw [← e]; exact h1
theorem Z3f {id : Nat} (l1 l2 : List Nat) (c : Nat) (cs : List Nat) (m : Nat) (hm : C.P.follows .mixedOrders = true) (hb : Nn ops = true) (hsz : Nat.beq ops.size (m + 1) = true) (s1 : setB ops m [] (l1 ++ l2) = true) (s2 : setB2 ops m l1 c = true)
    (s3 : (l1.all fun j => Wl ops ops.size c j) = true) (s4 : ((List.range m).all fun j => Wl ops ops.size m j) = true) (s5 : ((List.range m).all fun j => (c :: cs).any (Nat.beq j) || (l1 ++ l2).any (Nat.beq j)) = true) (s6 : (!(l2.any (Nat.beq c))) = true) (s7 : Nat.blt c m = true) (s8 : ordB ops (c :: cs) = true) (s9 : (cs.all fun q => Nat.blt q m && setB2 ops m (l1 ++ l2) q) = true)
    (k : TQ C ops (fun a1 => Gp C.P ops (fun a2 => ∀ w, Inv C.w0 C.M w H → wpOpsIn (FW C.ρ) 0 C.P ops (NQ Q) (c :: (cs ++ [m])) a2 w) l2 a1) l1 E H) : T C (.region id ops true) Q E H := by
  intro a0 w0 hf0 hi0
  have hsz := Nat.eq_of_beq_eq_true hsz
  have g1 := fun p i post e => Z6z (l := l1 ++ l2) s1 p i post e
  have hcm : c < m := by simpa using s7
  obtain ⟨hc1, oc, hoc, hsc, hst, hlc⟩ := Zej s2 hcm
  have hcs : ∀ q, q ∈ cs → q < m ∧ q ∉ l1 ++ l2 ∧ ∃ o, ops[q]? = some o ∧ Yt ops q = none ∧ Rb o = true ∧ ∀ t, t ∈ o.looksAt ops → ∀ j, j < m → Yt ops j = some t → j ∈ l1 ++ l2 ∧ Wl ops ops.size q j = true := fun q hq => by
    have h := List.all_eq_true.1 s9 q hq
    simp only [Bool.and_eq_true] at h
    have hqm : q < m := by simpa using h.1
    exact ⟨hqm, Zej h.2 hqm⟩
  have hc2 : c ∉ l2 := fun h => by rw [any_mem.2 h] at s6; simp at s6
  have hnd : (l1 ++ l2).Nodup := Zax fun p i post e => (g1 p i post e).2.2.1
  have hops : ∀ i, i ∈ l1 ++ l2 → i < m ∧ (∃ o, ops[i]? = some o) ∧ ∃ d, Yt ops i = some d ∧ ∀ j, j < m → j ≠ i → Yt ops j ≠ some d := fun i hi => by
    obtain ⟨p, post, e⟩ := List.append_of_mem hi
    obtain ⟨h1, -, -, o, d, h2, h3, h4, h5, -⟩ := g1 p i post e
    exact ⟨h1, ⟨o, h2⟩, d, h4, h5⟩
  obtain ⟨hn1, hn2, hdis⟩ := List.nodup_append.1 hnd
  obtain ⟨vs1, hst1, hend1⟩ := Za8 l1 a0 hn1 (fun i hi => (hops i (List.mem_append_left _ hi)).2.1) (k a0 hf0)
  obtain ⟨vs2, hst2, hend2⟩ := Zb9 l2 _ hn2 (fun i hi => (hops i (List.mem_append_right _ hi)).2.1) hend1
  let vs : Nat → Value := fun j => if j ∈ l1 then vs1 j else vs2 j
  have ev1 : ∀ j, j ∈ l1 → vs j = vs1 j := fun j hj => by simp [vs, hj]
  have ev2 : ∀ j, j ∈ l2 → vs j = vs2 j := fun j hj => by
    have : j ∉ l1 := fun h => hdis j h j hj rfl
    simp [vs, this]
  have eA : ∀ p : List Nat, (∀ j, j ∈ p → j ∈ l1) → ∀ a, Xe ops vs1 p a = Xe ops vs p a := fun p hp a => Z0e p a fun j hj => (ev1 j (hp j hj)).symm
  have eB : ∀ p : List Nat, (∀ j, j ∈ p → j ∈ l2) → ∀ a, Xe ops vs2 p a = Xe ops vs p a := fun p hp a => Z0e p a fun j hj => (ev2 j (hp j hj)).symm
  have hstep : ∀ p i post, l1 ++ l2 = p ++ i :: post → StepQ C.P ops (fun w => Inv C.w0 C.M w H) vs i (Xe ops vs p a0) ∧ (i ∈ l2 → StepU C.P ops vs i (Xe ops vs p a0)) := by
    intro p i post e
    rcases List.append_eq_append_iff.1 e with ⟨q, e1, e2⟩ | ⟨q, e1, e2⟩
    · -- p = l1 ++ q
      have hq : ∀ j, j ∈ q → j ∈ l2 := fun j hj => by rw [e2]; exact List.mem_append_left _ hj
      have hi : i ∈ l2 := by rw [e2]; simp
      have h := hst2 q i post e2
      have : StepU C.P ops vs i (Xe ops vs p a0) := by
        rw [e1, Z2t, ← eA l1 (fun _ h => h), ← eB q hq]
        obtain ⟨o, a1, a2, a3, a4⟩ := h
        exact ⟨o, a1, a2, a3, by rw [ev2 i hi]; exact a4⟩
      exact ⟨this.q, fun _ => this⟩
    · cases q with
      | nil =>
        simp only [List.append_nil, List.nil_append] at e1 e2
        have hi : i ∈ l2 := by rw [← e2]; simp
        have h := hst2 [] i post e2.symm
        have : StepU C.P ops vs i (Xe ops vs p a0) := by
          rw [← e1, ← eA l1 (fun _ h => h)]
          obtain ⟨o, a1, a2, a3, a4⟩ := h
          exact ⟨o, a1, a2, a3, by rw [ev2 i hi]; exact a4⟩
        exact ⟨this.q, fun _ => this⟩
      | cons r q =>
        simp only [List.cons_append, List.cons.injEq] at e2
        obtain ⟨rfl, rfl⟩ := e2
        have hp : ∀ j, j ∈ p → j ∈ l1 := fun j hj => by rw [e1]; exact List.mem_append_left _ hj
        have hi : i ∈ l1 := by rw [e1]; simp
        have h := hst1 p i q e1
        refine ⟨?_, fun h2 => absurd rfl (hdis i hi i h2)⟩
        rw [← eA p hp]
        obtain ⟨o, a1, a2, a3, a4⟩ := h
        exact ⟨o, a1, a2, a3, by rw [ev1 i hi]; exact a4⟩
  rw [eA l1 (fun _ h => h), eB l2 (fun _ h => h), ← Z2t] at hend2
  have hbase : DoneQ ops m vs a0 (fun _ => false) a0 := ⟨rfl, rfl, fun j d _ h => by simp at h, fun t _ => rfl⟩
  have hpre : ∀ p post, l1 ++ l2 = p ++ post → DoneQ ops m vs a0 (fun q => p.any (Nat.beq q)) (Xe ops vs p a0) := fun p post e => by
    have := Za4 (vs := vs) p _ _ (fun i hi => by
      obtain ⟨h1, -, h2⟩ := hops i (by rw [e]; exact List.mem_append_left _ hi)
      exact ⟨h1, h2⟩) hbase
    simpa using this
  have hfull := hpre (l1 ++ l2) [] (by simp)
  have quiet : ∀ (done : Nat → Bool) (i : Nat) (o : Oper) (a : Act), i ∈ l1 ++ l2 → ops[i]? = some o → DoneQ ops m vs a0 done a → (∀ j, Wl ops ops.size i j = true → done j = true) →
      ∃ d p post, o.dst = some d ∧ l1 ++ l2 = p ++ i :: post ∧ (execOp a.eval o = execOp (Xe ops vs p a0).eval o ∨ ∃ cs b, o.op = .select cs b) ∧ Region.wanted o (yielded ops a.tmps) = Region.wanted o (yielded ops (Xe ops vs p a0).tmps) ∧ DoneQ ops m vs a0 (fun q => if q = i then true else done q) (a.put (some d) (vs i)) := by
    intro done i o a hi ho hD hreach
    obtain ⟨p, post, e⟩ := List.append_of_mem hi
    obtain ⟨him, -, -, o', d, ho', hd, hs, hu, hl⟩ := g1 p i post e
    rw [ho] at ho'; injection ho' with ho'; subst ho'
    have hA := hpre p (i :: post) e
    obtain ⟨hev, hwt⟩ := Z29 hD hA (o := o) (fun t htl j hj hsj => by
      obtain ⟨h1, h2⟩ := hl t htl j hj hsj
      have hjp : j ∈ p := h1.elim (fun h1 => by simp at h1) (fun h1 => h1)
      exact ⟨hreach j h2, any_mem.2 hjp⟩)
    refine ⟨d, p, post, hd, e, ?_, hwt, hD.put him hs hu⟩
    by_cases hsel : ∃ cs b, o.op = .select cs b
    · exact .inr hsel
    · exact .inl (execOp_congr o (fun cs b h => hsel ⟨cs, b, h⟩) hev)
  have hmreach : ∀ j, j < m → Wl ops ops.size m j = true := fun j hj => List.all_eq_true.1 s4 j (List.mem_range.2 hj)
  have hcover : ∀ j, j < m → j ∈ c :: cs ∨ j ∈ l1 ++ l2 := fun j hj => by
    have h := List.all_eq_true.1 s5 j (List.mem_range.2 hj)
    cases e : (c :: cs).any (Nat.beq j) with
    | true => exact .inl (any_mem.1 e)
    | false => rw [e, Bool.false_or] at h; exact .inr (any_mem.1 h)
  have hclosed : ∀ (done : Nat → Bool) (i : Nat) (o : Oper), Kj ops done → ops[i]? = some o → (∀ e, e ∈ o.after → Region.binds .any e = true → done e.on = true) → Kj ops (fun q => if q = i then true else done q) := by
    intro done i o hc ho hd j o' ho' hj e he hbe
    show (if e.on = i then true else done e.on) = true
    by_cases hei : e.on = i
    · rw [if_pos hei]
    · rw [if_neg hei]
      by_cases hji : j = i
      · subst hji; rw [ho] at ho'; injection ho' with ho'; subst ho'; exact hd e he hbe
      · have hj' : done j = true := by simpa [hji] using hj
        exact hc j o' ho' hj' e he hbe
  refine wpIn_region_any hm (Zb8 (J := fun done a w => Kj ops done ∧
      ((done c = false ∧ (∀ q, q ∈ cs → done q = false) ∧ done m = false ∧ DoneQ ops m vs a0 done a ∧ Inv C.w0 C.M w H) ∨
       (∃ d1 rest, cs = d1 ++ rest ∧ done c = true ∧ (∀ q, q ∈ d1 → done q = true) ∧ (∀ q, q ∈ rest → done q = false) ∧ done m = false ∧ (∀ j, j ∈ l1 → done j = true) ∧ DoneQ ops m vs a0 done a ∧ wpOpsIn (FW C.ρ) 0 C.P ops (NQ Q) (rest ++ [m]) (Xe ops vs (l1 ++ l2) a0) w) ∨
       (done m = true ∧ (∀ q, q < m → done q = true) ∧ Q .normal a w)))
    hb ?_ ?_ ops.size (Array.replicate ops.size false) a0 _ (by simp) ?_ ?_)
  · rintro done i o a w ho hdi hd ⟨hc, hJ⟩
    have hi : i < ops.size := (Array.getElem?_eq_some_iff.1 ho).1
    have hreach : ∀ j, Wl ops ops.size i j = true → done j = true := fun j hj => Gx hc _ i j hj (fun o' ho' => by rw [ho] at ho'; injection ho' with ho'; subst ho'; exact hd)
    have hcl := hclosed done i o hc ho hd
    have ocs : ∀ q, q ∈ cs → Wl ops ops.size q c = true := (Za1 s8).1
    by_cases him : i = m
    · subst him
      have hall : ∀ j, j < i → done j = true := fun j hj => hreach j (hmreach j hj)
      rcases hJ with ⟨h1, -⟩ | ⟨d1, rest, e, h1, h2, h3, -, -, hD, hw⟩ | ⟨h1, -⟩
      · rw [hall c hcm] at h1; cases h1
      · have er : rest = [] := by
          cases rest with
          | nil => rfl
          | cons q rest =>
            exfalso
            have hq := (hcs q (by rw [e]; simp)).1
            have := h3 q (.head _)
            rw [hall q hq] at this; cases this
        subst er
        have ea : a = Xe ops vs (l1 ++ l2) a0 := by
          have h3 : DoneQ ops i vs a0 (fun q => (l1 ++ l2).any (Nat.beq q) || (c :: cs).any (Nat.beq q)) (Xe ops vs (l1 ++ l2) a0) := hfull.cuts (c :: cs) fun q hq => by
            rcases List.mem_cons.1 hq with rfl | hq
            · exact hsc
            · obtain ⟨-, -, o, -, h, -⟩ := hcs q hq; exact h
          refine hD.eq h3 hall fun j hj => ?_
          rcases hcover j hj with h | h
          · simp only [any_mem.2 h, Bool.or_true]
          · simp only [any_mem.2 h, Bool.true_or]
        rw [← ea, List.nil_append, wpOpsIn_cons] at hw
        exact wpOpIn_mono (fun a' w' hw' => ⟨hcl, .inr (.inr ⟨by simp, fun q hq => by show (if q = i then true else done q) = true; rw [if_neg (by omega)]; exact hall q hq, hw'⟩)⟩) (Zfg hw)
      · rw [hdi] at h1; cases h1
    have hilt : i < m := by omega
    have dmi : ∀ {b : Bool}, done m = b → (if m = i then true else done m) = b := fun h => by rw [if_neg (fun h => him h.symm)]; exact h
    by_cases hic : i = c
    · subst hic
      rcases hJ with ⟨-, hdcs, hdm, hD, hinv⟩ | ⟨d1, rest, e, h1, -⟩ | ⟨-, h1, -⟩
      · rw [hoc] at ho; injection ho with ho; subst ho
        obtain ⟨hnd, hns⟩ := Zbz hst
        have hw := hend2 w hinv
        rw [wpOpsIn_cons] at hw
        obtain ⟨hev, hwt⟩ := Z29 hD hfull (o := oc) (fun t htl j hj hsj => by
          obtain ⟨h1, h2⟩ := hlc t htl j hj hsj
          exact ⟨hreach j h2, any_mem.2 (List.mem_append_left _ h1)⟩)
        refine Zex (fun _ => trivial) hoc hst (execOp_congr oc hns hev) hwt ?_ hw
        intro w' hk
        refine ⟨hcl, .inr (.inl ⟨[], cs, rfl, by simp, fun q hq => by simp at hq, fun q hq => ?_, dmi hdm, fun j hj => ?_, ?_, hk⟩)⟩
        · show (if q = i then true else done q) = false
          rw [if_neg (fun h => by subst h; exact (Za1 s8).2.1 hq)]
          exact hdcs q hq
        · show (if j = i then true else done j) = true
          split
          · rfl
          · exact hreach j (List.all_eq_true.1 s3 j hj)
        · exact hD.cut hsc
      · rw [hdi] at h1; cases h1
      · rw [h1 i hcm] at hdi; cases hdi
    have dci : ∀ {b : Bool}, done c = b → (if c = i then true else done c) = b := fun h => by rw [if_neg (fun h => hic h.symm)]; exact h
    by_cases hics : i ∈ cs
    · obtain ⟨-, hni, oi, hoi, hsi, hsti, hli⟩ := hcs i hics
      have hdc : done c = true := hreach c (ocs i hics)
      rcases hJ with ⟨h1, -⟩ | ⟨d1, rest, e, h1, h2, h3, hdm, hl1, hD, hw⟩ | ⟨-, h1, -⟩
      · rw [hdc] at h1; cases h1
      · rw [hoi] at ho; injection ho with ho; subst ho
        cases rest with
        | nil => rw [List.append_nil] at e; subst e; rw [h2 i hics] at hdi; cases hdi
        | cons q rest =>
          have hqi : q = i := by
            have hm : i ∈ d1 ++ q :: rest := e ▸ hics
            rcases List.mem_append.1 hm with h | h
            · rw [h2 i h] at hdi; cases hdi
            · rcases List.mem_cons.1 h with h | h
              · exact h.symm
              · have := hreach q ((Za1 s8).2.2 d1 q rest e i h)
                rw [h3 q (.head _)] at this; cases this
          subst hqi
          obtain ⟨hnd, hns⟩ := Zbz hsti
          rw [List.cons_append, wpOpsIn_cons] at hw
          obtain ⟨hev, hwt⟩ := Z29 hD hfull (o := oi) (fun t htl j hj hsj => by
            obtain ⟨h1, h2⟩ := hli t htl j hj hsj
            exact ⟨hreach j h2, any_mem.2 h1⟩)
          refine Zex (fun _ => trivial) hoi hsti (execOp_congr oi hns hev) hwt ?_ hw
          intro w' hk
          refine ⟨hcl, .inr (.inl ⟨d1 ++ [q], rest, by rw [e]; simp, dci h1, fun p hp => ?_, fun p hp => ?_, dmi hdm, fun j hj => ?_, hD.cut hsi, hk⟩)⟩
          · show (if p = q then true else done p) = true
            split
            · rfl
            · rcases List.mem_append.1 hp with h | h
              · exact h2 p h
              · simp at h; contradiction
          · show (if p = q then true else done p) = false
            rw [if_neg (fun h => by subst h; exact (Zjt s8 e) hp)]
            exact h3 p (.tail _ hp)
          · show (if j = q then true else done j) = true
            split
            · rfl
            · exact hl1 j hj
      · rw [h1 i hilt] at hdi; cases hdi
    have hil : i ∈ l1 ++ l2 := by
      rcases hcover i hilt with h | h
      · rcases List.mem_cons.1 h with h | h
        · exact absurd h hic
        · exact absurd h hics
      · exact h
    have dcs : ∀ {q : Nat} {b : Bool}, q ∈ cs → done q = b → (if q = i then true else done q) = b := fun hq h => by rw [if_neg (fun h => by subst h; exact hics hq)]; exact h
    rcases hJ with ⟨hdc', hdcs, hdm, hD, hinv⟩ | ⟨d1, rest, e0, hdc', h2, h3, hdm, hl1, hD, hw⟩ | ⟨hdm, h1, -⟩
    · obtain ⟨d, p, post, hd', e, hex, hwt, hput⟩ := quiet done i o a hil ho hD hreach
      obtain ⟨o', ho', hnd', hns', hval⟩ := (hstep p i post e).1
      rw [ho] at ho'; injection ho' with ho'; subst ho'
      have hex : execOp a.eval o = execOp (Xe ops vs p a0).eval o := hex.resolve_right fun ⟨cs, b, h⟩ => hns' cs b h
      have fin : ∀ a' w', DoneQ ops m vs a0 (fun q => if q = i then true else done q) a' → Inv C.w0 C.M w' H → _ := fun a' w' h1 h2 => (⟨hcl, .inl ⟨dci hdc', fun q hq => dcs hq (hdcs q hq), dmi hdm, h1, h2⟩⟩ : Kj ops (fun q => if q = i then true else done q) ∧
        (((if c = i then true else done c) = false ∧ (∀ q, q ∈ cs → (if q = i then true else done q) = false) ∧ (if m = i then true else done m) = false ∧ DoneQ ops m vs a0 (fun q => if q = i then true else done q) a' ∧ Inv C.w0 C.M w' H) ∨
         (∃ d1 rest, cs = d1 ++ rest ∧ (if c = i then true else done c) = true ∧ (∀ q, q ∈ d1 → (if q = i then true else done q) = true) ∧ (∀ q, q ∈ rest → (if q = i then true else done q) = false) ∧ (if m = i then true else done m) = false ∧ (∀ j, j ∈ l1 → (if j = i then true else done j) = true) ∧ DoneQ ops m vs a0 (fun q => if q = i then true else done q) a' ∧ wpOpsIn (FW C.ρ) 0 C.P ops (NQ Q) (rest ++ [m]) (Xe ops vs (l1 ++ l2) a0) w') ∨
         ((if m = i then true else done m) = true ∧ (∀ q, q < m → (if q = i then true else done q) = true) ∧ Q .normal a' w')))
      unfold wpOpIn
      rw [ho]
      simp only
      rw [hwt]
      rcases hval with ⟨hw, hq⟩ | ⟨hw, hq⟩
      · rw [hw]
        simp only [if_true]
        refine ⟨fun _ _ => trivial, ?_⟩
        rw [Oper.semAt_eq _ _ _ hnd', hex]
        have hq := hq w hinv
        generalize (execOp (Xe ops vs p a0).eval o).run C.P w = r at hq
        cases r with
        | ok x w' =>
          cases x <;> simp only [Jq] at hq
          case value u =>
            obtain ⟨rfl, rfl⟩ := hq
            show _ ∧ _
            rw [hd']; exact fin _ _ hput hinv
          case enter f args =>
            obtain ⟨rfl, hcall⟩ := hq
            refine ⟨by simp [FW], callsIn_FW.2 (Calls.mono hcall ?_)⟩
            rintro e w'' ⟨rfl, hK⟩
            show _ ∧ _
            rw [hd']; exact fin _ _ hput hK
        | halt x w' => simp only [Jq] at hq
      · rw [hw]
        simp only [Bool.false_eq_true, if_false]
        refine ⟨fun _ _ => trivial, ?_⟩
        rw [hd', ← hq]; exact fin _ _ hput hinv
    · obtain ⟨d, p, post, hd', e, hex, hwt, hput⟩ := quiet done i o a hil ho hD hreach
      have hi2 : i ∈ l2 := by
        rcases List.mem_append.1 hil with h | h
        · rw [hl1 i h] at hdi; cases hdi
        · exact h
      obtain ⟨o', ho', hnd', hns', hval⟩ := (hstep p i post e).2 hi2
      rw [ho] at ho'; injection ho' with ho'; subst ho'
      have hex : execOp a.eval o = execOp (Xe ops vs p a0).eval o := hex.resolve_right fun ⟨cs, b, h⟩ => hns' cs b h
      have fin : (fun a' w' => Kj ops (fun q => if q = i then true else done q) ∧
        (((if c = i then true else done c) = false ∧ (∀ q, q ∈ cs → (if q = i then true else done q) = false) ∧ (if m = i then true else done m) = false ∧ DoneQ ops m vs a0 (fun q => if q = i then true else done q) a' ∧ Inv C.w0 C.M w' H) ∨
         (∃ d1 rest, cs = d1 ++ rest ∧ (if c = i then true else done c) = true ∧ (∀ q, q ∈ d1 → (if q = i then true else done q) = true) ∧ (∀ q, q ∈ rest → (if q = i then true else done q) = false) ∧ (if m = i then true else done m) = false ∧ (∀ j, j ∈ l1 → (if j = i then true else done j) = true) ∧ DoneQ ops m vs a0 (fun q => if q = i then true else done q) a' ∧ wpOpsIn (FW C.ρ) 0 C.P ops (NQ Q) (rest ++ [m]) (Xe ops vs (l1 ++ l2) a0) w') ∨
         ((if m = i then true else done m) = true ∧ (∀ q, q < m → (if q = i then true else done q) = true) ∧ Q .normal a' w'))) (a.put o.dst (vs i)) w := by
        refine ⟨hcl, .inr (.inl ⟨d1, rest, e0, dci hdc', fun q hq => dcs (by rw [e0]; exact List.mem_append_left _ hq) (h2 q hq), fun q hq => dcs (by rw [e0]; exact List.mem_append_right _ hq) (h3 q hq), dmi hdm, fun j hj => ?_, ?_, hw⟩)⟩
        · split
          · rfl
          · exact hl1 j hj
        · rw [hd']; exact hput
      unfold wpOpIn
      rw [ho]
      simp only
      rw [hwt]
      rcases hval with ⟨hw', hq⟩ | ⟨hw', hq⟩
      · rw [hw']
        simp only [if_true]
        refine ⟨fun _ _ => trivial, ?_⟩
        rw [Oper.semAt_eq _ _ _ hnd', hex, hq w]
        exact fin
      · rw [hw']
        simp only [Bool.false_eq_true, if_false]
        refine ⟨fun _ _ => trivial, ?_⟩
        rw [← hq]; exact fin
    · rw [h1 i hilt] at hdi; cases hdi
  · rintro done a w hall ⟨hc, hJ⟩
    rcases hJ with ⟨h1, -⟩ | ⟨d1, rest, -, -, -, -, h1, -⟩ | ⟨-, -, h⟩
    · rw [hall c (by omega)] at h1; cases h1
    · rw [hall m (by omega)] at h1; cases h1
    · exact h
  · have : ((List.range ops.size).filter (fun i => !(Array.replicate ops.size false).getD i true)).length ≤ (List.range ops.size).length := List.length_filter_le _ _
    simpa using this
  · have hf : (fun q => (Array.replicate ops.size false).getD q false) = fun _ => false := by
      funext q
      simp only [Array.getD_eq_getD_getElem?, Array.getElem?_replicate]
      split <;> rfl
    rw [hf]
    exact ⟨fun i o _ h => by simp at h, .inl ⟨rfl, fun _ _ => rfl, rfl, hbase, hi0.ofHeap rfl rfl rfl rfl⟩⟩
theorem Rw {Qn : Act → Prop} {l : List Nat} (h : TU C ops Qn l E) : TQ C ops (fun a => Gp C.P ops Qn l a) [] E H := h
theorem TU.tail {l : List Nat} {H0 : Heap} (hH : H0 = H) (h : TO C ops Q l E H) : TU C ops (fun a => ∀ w, Inv C.w0 C.M w H0 → wpOpsIn (FW C.ρ) 0 C.P ops Q l a w) [] E := fun a hf w hi => h a w hf (hH ▸ hi)
variable {Qn : Act → Prop} {l : List Nat} {i d : Nat} {ty : TypeId} {pos : String} {af : Array Edge} {g : Option (Nat × Bool)}
theorem TU.val {op : Op} {v : Value} (ho : ops[i]? = some ⟨some d, op, ty, pos, af, g⟩) (hg : Zv ops E g = true) (hd : Nat.ble (d + 1) C.n = true) (hnd : ∀ c, op ≠ .defer c)
    (hr : ∀ a w, Fits C.n C.D E a → (execOp a.eval ⟨some d, op, ty, pos, af, g⟩).run C.P w = .ok (.value v) w)
    (k : TU C ops Qn l ((d, v) :: E)) (hns : ∀ cs b, op ≠ .select cs b := by simp) : TU C ops Qn (i :: l) E := by
  intro a hf
  simp only [Gp, ho]
  refine ⟨hnd, hns, ?_⟩
  rw [if_pos (Z9u hf hg)]
  exact ⟨v, fun w => hr a w hf, k _ (hf.put hd v)⟩
theorem TU.move {x : Operand} {v : Value} (ho : ops[i]? = some ⟨some d, .move x, ty, pos, af, g⟩) (hg : Zv ops E g = true) (hd : Nat.ble (d + 1) C.n = true) (hx : ev E x = some v)
    (kk : TU C ops Qn l ((d, v) :: E)) : TU C ops Qn (i :: l) E := TU.val ho hg hd (by simp) (fun a w hf => by simp [execOp, hf.ev hx]) kk
theorem TU.nilCheck {x : Operand} {p : Addr} (ho : ops[i]? = some ⟨some d, .nilCheck x, ty, pos, af, g⟩) (hg : Zv ops E g = true) (hd : Nat.ble (d + 1) C.n = true) (hx : ev E x = some (.pointer (some p)))
    (k : TU C ops Qn l ((d, .pointer (some p)) :: E)) : TU C ops Qn (i :: l) E :=
  TU.val ho hg hd (by simp) (fun a w hf => by simp [execOp, hf.ev hx]) k
theorem TU.fieldAddr {s : TypeId} {x : Operand} {f o b p : Nat} (ho : ops[i]? = some ⟨some d, .fieldAddr s x f, ty, pos, af, g⟩) (hg : Zv ops E g = true) (hd : Nat.ble (d + 1) C.n = true)
    (hx : ev E x = some (.pointer (some ⟨b, p, none⟩))) (hT : Yh C.P s f = some o) (kk : TU C ops Qn l ((d, .pointer (some ⟨b, p + o, none⟩)) :: E)) : TU C ops Qn (i :: l) E :=
  TU.val ho hg hd (by simp) (fun a w hf => by simp [execOp, hf.ev hx, Zbr hT]) kk
theorem Z02 {s : TypeId} {x : Operand} {f o b : Nat} (ho : ops[i]? = some ⟨some d, .fieldAddr s x f, ty, pos, af, g⟩) (hg : Zv ops E g = true) (hd : Nat.ble (d + 1) C.n = true)
    (hx : ev E x = some (.pointer (some ⟨b, 0, none⟩))) (hT : Yh C.P s f = some o) (kk : TU C ops Qn l ((d, .pointer (some ⟨b, o, none⟩)) :: E)) : TU C ops Qn (i :: l) E :=
  TU.fieldAddr ho hg hd hx hT (by rw [Nat.zero_add]; exact kk)
def Vj (k : Nat) : List Value := [.pointer (some ⟨k, 0, none⟩)]
variable {Q : Exit → Act → World → Prop}
theorem Zar {t : TypeId} {x : Operand} {base : Option Addr} {n c q : Nat} {p : Int} {xs : List Nat} (hq : xs.getD p.toNat 0 = q) (hr : RS C.w0 C.M Vj 1 base n c xs) (hp : inb p xs.length) (q0_ : ops[i]? = some ⟨some d, .load t x, ty, pos, af, g⟩ ∧ Zv ops E g = true ∧ Nat.ble (d + 1) C.n = true ∧ ev E x = some (.pointer (some (ea base (p.toNat * 1))))) (hT : Xu C.P t = true)
    (kk : TO C ops Q l ((d, .pointer (some ⟨q, 0, none⟩)) :: E) H) : TO C ops Q (i :: l) E H := have ⟨ho, hg, hd, hx⟩ := q0_;
  TO.load ho hg hd hx hT (fun w hi => by
    have := (hr.ro.monoM hr.far hi).at 0 (o := p.toNat) (c := 0) (Uu hp) (by omega)
    rw [hq] at this
    simpa [Vj] using this) kk
theorem TO.ldPO {t T' : TypeId} {x : Operand} {b q : Nat} {p : Int} {xs : List Nat} {j : List Value} {fr : Nat × Nat} (hq : xs.getD p.toNat 0 = q) (hp : inb p xs.length) (ho : ops[i]? = some ⟨some d, .load t x, ty, pos, af, g⟩) (hg : Zv ops E g = true) (hd : Nat.ble (d + 1) C.n = true)
    (hx : ev E x = some (.pointer (some ⟨b, p.toNat, none⟩))) (hT : Xu C.P t = true) (hm : (some b, Obj.cells (arr Vj xs j).toArray T' fr) ∈ H)
    (kk : TO C ops Q l ((d, .pointer (some ⟨q, 0, none⟩)) :: E) H) : TO C ops Q (i :: l) E H :=
  TO.ldFO (f := Vj) (s := 1) (q := 0) 0 (fun _ => rfl) hp (by rw [hq]; rfl) ho hg hd (by simpa using hx) hT hm kk
theorem Za0 {t T' : TypeId} {x : Operand} {ob : Option Nat} {n c q : Nat} {p : Int} {xs : List Nat} {j : List Value} {fr : Nat × Nat} (hq : xs.getD p.toNat 0 = q) (hz : ob = none → c = 0) (hc : n ≤ c) (hn : xs.length = n) (hp : inb p xs.length) (q0_ : ops[i]? = some ⟨some d, .load t x, ty, pos, af, g⟩ ∧ Zv ops E g = true ∧ Nat.ble (d + 1) C.n = true ∧ ev E x = some (.pointer (some (ea (sb ob) (p.toNat * 1))))) (hT : Xu C.P t = true) (hm : (ob, Obj.cells (arr Vj xs j).toArray T' fr) ∈ H)
    (kk : TO C ops Q l ((d, .pointer (some ⟨q, 0, none⟩)) :: E) H) : TO C ops Q (i :: l) E H := by
  obtain ⟨ho, hg, hd, hx⟩ := q0_
  obtain ⟨b, rfl⟩ := Ju hz hc hn hp
  exact TO.ldPO hq hp ho hg hd (by rw [← Ga, ← Nat.mul_one p.toNat]; exact hx) hT hm kk
theorem TO.remL {t t2 : TypeId} {x y : Operand} {k : IntKind} {p q r : Int} (h : q ≠ 0 ∧ p.tmod q = r)
    (q0_ : ops[i]? = some ⟨some d, .binOp .rem t x y t2, ty, pos, af, g⟩ ∧ Zv ops E g = true ∧ Nat.ble (d + 1) C.n = true ∧ ev E x = some (.int k p) ∧ ev E y = some (.int k q))
    (kk : TO C ops Q l ((d, .int k r) :: E) H) : TO C ops Q (i :: l) E H := have ⟨ho, hg, hd, hx, hy⟩ := q0_; TO.rem ⟨ho, hg, hd, hx, hy⟩ h.1 (by rw [h.2]; exact kk)
theorem Nw : inb (0 : Int) 1 := by constructor <;> decide
theorem oneD {b : Nat} {p : Int} (h : inb p 1) : ([b] : List Nat).getD p.toNat 0 = b := by
 have h1 := h.1
 have h2 := h.2
 rw [show p.toNat = 0 by omega]; rfl
theorem Ze0 {α : Type} {t : TypeId} {at' : Array TypeId} {x : Operand} {e : TypeId} {base : Option Addr} {n c : Nat} {xs : List α} (h1 : xs.length = 1) (hn : xs.length = n)
    (q0_ : ops[i]? = some ⟨some d, .call ⟨.builtin .len, #[x], at'⟩, ty, pos, af, g⟩ ∧ Zv ops E g = true ∧ Nat.ble (d + 1) C.n = true ∧ at'[0]? = some t ∧ ev E x = some (.slice base n c)) (ht : Xh C.P t = some e) (kk : TO C ops Q l ((d, .int .i64 1) :: E) H) : TO C ops Q (i :: l) E H := have ⟨ho, hg, hd, hat, hx⟩ := q0_;
  Vn hn ⟨ho, hg, hd, hat, hx⟩ ht (by rw [h1]; exact kk)
theorem TQ.andB {t t2 : TypeId} {x y : Operand} {q : IntKind} {p r : Int} (q0_ : ops[i]? = some ⟨some d, .binOp .and t x y t2, ty, pos, af, g⟩ ∧ Zv ops E g = true ∧ Nat.ble (d + 1) C.n = true ∧ ev E x = some (.int q p) ∧ ev E y = some (.int q r))
    (kk : TQ C ops Qn l ((d, .int q (Gm q p r)) :: E) H) : TQ C ops Qn (i :: l) E H := have ⟨ho, hg, hd, hx, hy⟩ := q0_;
  TQ.val ho hg hd (by simp) (fun a w hf _ => by
    have : (binOp .and t (.int q p) (.int q r)) = pure (.int q (Gm q p r)) := by
      unfold Gm; cases q <;> rfl
    simp [execOp, hf.ev hx, hf.ev hy, eqGuard_at_int, this]) kk
theorem Zbv {t T' : TypeId} {x : Operand} {b o k : Nat} {cs vs : List Value} {fr : Nat × Nat} (q0_ : ops[i]? = some ⟨some d, .load t x, ty, pos, af, g⟩ ∧ Zv ops E g = true ∧ Nat.ble (d + 1) C.n = true ∧ ev E x = some (.pointer (some ⟨b, o, none⟩))) (hT : Wg C.P t k = true) (hm : (some b, Obj.cells cs.toArray T' fr) ∈ H) (q1_ : (cs.drop o).take k = vs ∧ vs.length = k)
    (kk : TQ C ops Qn l ((d, .agg vs.toArray) :: E) H) : TQ C ops Qn (i :: l) E H := have ⟨ho, hg, hd, hx⟩ := q0_; have ⟨hv, hk⟩ := q1_;
  Z9z ho hg hd hx hT hk (fun w hi j v hj => by
    rw [Addr.add_mid, hi.cell_own hm]
    subst hv
    rw [List.getElem?_take] at hj
    split at hj
    · rw [List.getElem?_drop] at hj; simpa using hj
    · cases hj) kk
theorem TQ.ldPR {t : TypeId} {x : Operand} {base : Option Addr} {n c q : Nat} {p : Int} {xs : List Nat} (hq : xs.getD p.toNat 0 = q) (hr : RS C.w0 C.M Vj 1 base n c xs) (hp : inb p xs.length) (q0_ : ops[i]? = some ⟨some d, .load t x, ty, pos, af, g⟩ ∧ Zv ops E g = true ∧ Nat.ble (d + 1) C.n = true ∧ ev E x = some (.pointer (some (ea base (p.toNat * 1))))) (hT : Xu C.P t = true)
    (kk : TQ C ops Qn l ((d, .pointer (some ⟨q, 0, none⟩)) :: E) H) : TQ C ops Qn (i :: l) E H := have ⟨ho, hg, hd, hx⟩ := q0_;
  TQ.load ho hg hd hx hT (fun w hi => by
    have := (hr.ro.monoM hr.far hi).at 0 (o := p.toNat) (c := 0) (Uu hp) (by omega)
    rw [hq] at this
    simpa [Vj] using this) kk
theorem TQ.lenP {α : Type} {t : TypeId} {at' : Array TypeId} {x : Operand} {e : TypeId} {base : Option Addr} {n c : Nat} {xs : List α} (h1 : xs.length = 1) (hn : xs.length = n)
    (q0_ : ops[i]? = some ⟨some d, .call ⟨.builtin .len, #[x], at'⟩, ty, pos, af, g⟩ ∧ Zv ops E g = true ∧ Nat.ble (d + 1) C.n = true ∧ at'[0]? = some t ∧ ev E x = some (.slice base n c)) (ht : Xh C.P t = some e) (kk : TQ C ops Qn l ((d, .int .i64 1) :: E) H) : TQ C ops Qn (i :: l) E H := have ⟨ho, hg, hd, hat, hx⟩ := q0_;
  TQ.lenX hn ho hg hd hat hx ht (by rw [h1]; exact kk)
theorem Z0s {t t2 : TypeId} {x y : Operand} {us ws : List Int} {va vb : Array Value} (ks : List IntKind) (ht : eqsT C.P t ks = true) (q0_ : ops[i]? = some ⟨some d, .binOp .neq t x y t2, ty, pos, af, g⟩ ∧ Zv ops E g = true ∧ Nat.ble (d + 1) C.n = true ∧ ev E x = some (.agg va) ∧ ev E y = some (.agg vb) ∧ us.length = ks.length ∧ ws.length = ks.length ∧ ((ks.zip us).map fun p => Value.int p.1 p.2).toArray = va ∧ ((ks.zip ws).map fun p => Value.int p.1 p.2).toArray = vb) (kk : TO C ops Q l ((d, .bool (!decide (us = ws))) :: E) H) : TO C ops Q (i :: l) E H := have ⟨ho, hg, hd, hx, hy, ha, hb, hva, hvb⟩ := q0_;
  TO.val ho hg hd (by simp) (fun a w hf _ => by
    subst hva; subst hvb
    have h3 : C.P.eqGuardType C.P.depth t = false := by simp only [eqsT, Bool.and_eq_true, Bool.not_eq_true'] at ht; exact ht.2
    have := Zb5 (eqsT_run ht ha hb w) rfl
    simp only [execOp, hf.ev hx, hf.ev hy]
    simp [run_eqGuard_agg w _ _ _ _ _ _ h3, this]) kk
theorem TQ.ldPO {t T' : TypeId} {x : Operand} {b q : Nat} {p : Int} {xs : List Nat} {j : List Value} {fr : Nat × Nat} (hq : xs.getD p.toNat 0 = q) (hp : inb p xs.length) (ho : ops[i]? = some ⟨some d, .load t x, ty, pos, af, g⟩) (hg : Zv ops E g = true) (hd : Nat.ble (d + 1) C.n = true)
    (hx : ev E x = some (.pointer (some ⟨b, p.toNat, none⟩))) (hT : Xu C.P t = true) (hm : (some b, Obj.cells (arr Vj xs j).toArray T' fr) ∈ H)
    (kk : TQ C ops Qn l ((d, .pointer (some ⟨q, 0, none⟩)) :: E) H) : TQ C ops Qn (i :: l) E H :=
  TQ.ldFO (f := Vj) (s := 1) (q := 0) 0 (fun _ => rfl) hp (by rw [hq]; rfl) ho hg hd (by simpa using hx) hT hm kk
theorem TQ.ldPV {t T' : TypeId} {x : Operand} {ob : Option Nat} {n c q : Nat} {p : Int} {xs : List Nat} {j : List Value} {fr : Nat × Nat} (hq : xs.getD p.toNat 0 = q) (hz : ob = none → c = 0) (hc : n ≤ c) (hn : xs.length = n) (hp : inb p xs.length) (q0_ : ops[i]? = some ⟨some d, .load t x, ty, pos, af, g⟩ ∧ Zv ops E g = true ∧ Nat.ble (d + 1) C.n = true ∧ ev E x = some (.pointer (some (ea (sb ob) (p.toNat * 1))))) (hT : Xu C.P t = true) (hm : (ob, Obj.cells (arr Vj xs j).toArray T' fr) ∈ H)
    (kk : TQ C ops Qn l ((d, .pointer (some ⟨q, 0, none⟩)) :: E) H) : TQ C ops Qn (i :: l) E H := by
  obtain ⟨ho, hg, hd, hx⟩ := q0_
  obtain ⟨b, rfl⟩ := Ju hz hc hn hp
  exact TQ.ldPO hq hp ho hg hd (by rw [← Ga, ← Nat.mul_one p.toNat]; exact hx) hT hm kk
end
end Go.Acq
namespace Go.Proofs.YtobnnpdfeakbbaaGreat.Ax
open Go Go.Acq Go.RowKit Go.Proofs
set_option maxHeartbeats 8000000
set_option maxRecDepth 20000
theorem Yx : Tryz.prog.follows .mixedOrders = true := by kernel_rfl
theorem Ri : Wg Tryz.prog 131 3 = true := by kernel_rfl
theorem Vd : Wg Tryz.prog 24 4 = true := by kernel_rfl
theorem Z1u : Wg Tryz.prog 258 2 = true := by kernel_rfl
theorem Znp : Wg Tryz.prog 259 12 = true := by kernel_rfl
theorem Z2f : Wg Tryz.prog 29 9 = true := by kernel_rfl
theorem Zh9 : Un Tryz.prog 131 = some 24 := by kernel_rfl
theorem TWXS4.b2 : Un Tryz.prog 2 = some 8 := by kernel_rfl
theorem Ry : Un Tryz.prog 3 = some 8 := by kernel_rfl
theorem TWXS4.b4 : Un Tryz.prog 4 = some 1 := by kernel_rfl
theorem Zjg : Zx Tryz.prog 108 = true := by kernel_rfl
theorem Zii : Zx Tryz.prog 109 = true := by kernel_rfl
theorem Zdt : Zx Tryz.prog 110 = true := by kernel_rfl
theorem Zk8 : Zx Tryz.prog 190 = true := by kernel_rfl
theorem Zin : Zx Tryz.prog 253 = true := by kernel_rfl
theorem Zkh : Zx Tryz.prog 254 = true := by kernel_rfl
theorem Zj9 : Zx Tryz.prog 255 = true := by kernel_rfl
theorem Rv : Zx Tryz.prog 256 = true := by kernel_rfl
theorem Zdp : Zx Tryz.prog 257 = true := by kernel_rfl
theorem Znk : Zx Tryz.prog 258 = true := by kernel_rfl
theorem Zo8 : Zx Tryz.prog 259 = true := by kernel_rfl
theorem Zm7 : Zx Tryz.prog 260 = true := by kernel_rfl
theorem Znd : Zx Tryz.prog 261 = true := by kernel_rfl
theorem Zdn : Zx Tryz.prog 305 = true := by kernel_rfl
theorem Zde : Zx Tryz.prog 306 = true := by kernel_rfl
theorem Zc6 : Zx Tryz.prog 307 = true := by kernel_rfl
theorem Zfc : Zx Tryz.prog 316 = true := by kernel_rfl
theorem Z52 : Zx Tryz.prog 69 = true := by kernel_rfl
theorem Zo0 : Zx Tryz.prog 98 = true := by kernel_rfl
theorem Rr : Yh Tryz.prog 131 0 = some 0 := by kernel_rfl
theorem Z0i : Yh Tryz.prog 131 1 = some 1 := by kernel_rfl
theorem Z0l : Yh Tryz.prog 131 2 = some 2 := by kernel_rfl
theorem Ui : Yh Tryz.prog 24 0 = some 0 := by kernel_rfl
theorem Uz : Yh Tryz.prog 24 1 = some 1 := by kernel_rfl
theorem Gy : Yh Tryz.prog 24 2 = some 2 := by kernel_rfl
theorem Np : Yh Tryz.prog 24 3 = some 3 := by kernel_rfl
theorem Z13 : Yh Tryz.prog 258 0 = some 0 := by kernel_rfl
theorem Z10 : Yh Tryz.prog 258 1 = some 1 := by kernel_rfl
theorem Nr : Yh Tryz.prog 29 3 = some 3 := by kernel_rfl
theorem Nc : Yh Tryz.prog 29 4 = some 4 := by kernel_rfl
theorem Z2m : Yh Tryz.prog 29 5 = some 5 := by kernel_rfl
theorem Z5k : Yh Tryz.prog 29 6 = some 6 := by kernel_rfl
theorem Zev : Yh Tryz.prog 29 7 = some 7 := by kernel_rfl
theorem Zf0 : Yh Tryz.prog 29 8 = some 8 := by kernel_rfl
theorem Ut : Xh Tryz.prog 22 = some 131 := by kernel_rfl
theorem Xg : Xh Tryz.prog 25 = some 3 := by kernel_rfl
theorem Z4n : Xh Tryz.prog 26 = some 2 := by kernel_rfl
theorem Zcd : Xh Tryz.prog 27 = some 4 := by kernel_rfl
theorem Kv : Yq Tryz.prog 131 = some 3 := by kernel_rfl
theorem Uk : Yq Tryz.prog 2 = some 1 := by kernel_rfl
theorem Zm0 : Yq Tryz.prog 22 = some 1 := by kernel_rfl
theorem Z2u : Yq Tryz.prog 24 = some 4 := by kernel_rfl
theorem Z0v : Yq Tryz.prog 25 = some 1 := by kernel_rfl
theorem Z1d : Yq Tryz.prog 258 = some 2 := by kernel_rfl
theorem Zmn : Yq Tryz.prog 259 = some 12 := by kernel_rfl
theorem Zp1 : Yq Tryz.prog 26 = some 1 := by kernel_rfl
theorem Zi1 : Yq Tryz.prog 27 = some 1 := by kernel_rfl
theorem Z60 : Yq Tryz.prog 29 = some 9 := by kernel_rfl
theorem Yf : Yq Tryz.prog 3 = some 1 := by kernel_rfl
theorem Wy : Yq Tryz.prog 4 = some 1 := by kernel_rfl
theorem Z0p : Tryz.prog.underlying 259 = some (.array 6 258) := by kernel_rfl
theorem Wd : Xu Tryz.prog 2 = true := by kernel_rfl
theorem Ll : Xu Tryz.prog 22 = true := by kernel_rfl
theorem Wr : Xu Tryz.prog 25 = true := by kernel_rfl
theorem Z2a : Xu Tryz.prog 256 = true := by kernel_rfl
theorem Zao : Xu Tryz.prog 26 = true := by kernel_rfl
theorem Zlf : Xu Tryz.prog 27 = true := by kernel_rfl
theorem Zo : Xu Tryz.prog 3 = true := by kernel_rfl
theorem Zcn : Xu Tryz.prog 309 = true := by kernel_rfl
theorem Z14 : Xu Tryz.prog 54 = true := by kernel_rfl
theorem Z0d : Xz Tryz.prog 131 = some (.agg #[iV 0, iV 0, iV 0]) := by kernel_rfl
theorem TWXS4.z2 : Xz Tryz.prog 2 = some (iV 0) := by kernel_rfl
theorem Zag : Xz Tryz.prog 24 = some (.agg #[iV 0, iV 0, iV 0, .slice none 0 0]) := by kernel_rfl
theorem Zcv : Xz Tryz.prog 25 = some (.slice none 0 0) := by kernel_rfl
theorem Z26 : Xz Tryz.prog 258 = some (.agg #[.nilFunc, iV 0]) := by kernel_rfl
theorem Zmi : Xz Tryz.prog 259 = some (.agg #[.nilFunc, iV 0, .nilFunc, iV 0, .nilFunc, iV 0, .nilFunc, iV 0, .nilFunc, iV 0, .nilFunc, iV 0]) := by kernel_rfl
theorem Zbh : Xz Tryz.prog 29 = some (.agg #[iV 0, iV 0, iV 0, .slice none 0 0, .slice none 0 0, .slice none 0 0, .slice none 0 0, .slice none 0 0, .slice none 0 0]) := by kernel_rfl
theorem Lg : Xz Tryz.prog 3 = some (iV 0) := by kernel_rfl
theorem TWXS4.z4 : Xz Tryz.prog 4 = some (.bool false) := by kernel_rfl
theorem Zgw : ElemT Tryz.prog 22 131 3 24 (.agg #[iV 0, iV 0, iV 0]) := ⟨Ut, Kv, Zh9, Z0d, rfl⟩
theorem Zhk : ElemT Tryz.prog 25 3 1 8 (iV 0) := ⟨Xg, Yf, Ry, Lg, rfl⟩
theorem Z31 {x0 n1 : Int} (w : World) {r0 : Int} (H : Lf x0 n1 = some r0) : Fnc Tryz.prog 69 #[iV x0, iV n1] w [] (fun v N => v = iV r0 ∧ N = []) := by
 unfold Lf at H; refine Fnc.enter (vs := [iV x0, iV n1]) Tryz.func69 rfl rfl (Inv.refl w) ?_; refine sR Y1 rfl ?_; refine aN Za ?_; refine Zl ?_; refine sR Y2 rfl ?_; refine Zd Za ?_; refine Yc Zw ?_; refine dN ?_; rcases Zt H with ⟨g1, H⟩ | ⟨g1, H⟩
 · refine Wc rfl g1 ?_; refine sR Y1 rfl ?_; refine aN Za ?_; refine T.ret ?_; refine Yv ?_; obtain rfl := ret1 H; exact Zu Za (Res.tmp rfl) Zg ⟨rfl, rfl⟩
 · refine Wa rfl g1 ?_; refine T.skip ?_; refine Yk ?_; obtain ⟨g2, g3, g4, H⟩ := gd3 H; refine sR Y8 rfl ?_; refine Zd Za ?_; refine Zd Za ?_; refine TO.rem Zf g2 ?_; refine Zd Za ?_; refine Xf g3 Zf ?_; refine Zd Za ?_; refine TO.rem Zf g4 ?_; refine aN Za ?_; refine Zq (aT [4] rfl) ?_; refine T.ret ?_; obtain rfl := ret1 H; exact Zu Za (Res.tmp rfl) Zg ⟨rfl, rfl⟩
theorem Znw {n0 : Net} {verts1 arcs2 : Int} {a7 : Option Addr} {a9 a6 : Nat} (w : World) (a5 : RS w [] Wh 3 a7 a9 a6 n0.Arcs) {r0 : Net} (H : Z3p n0 verts1 arcs2 = some r0) : Fnc Tryz.prog 23 #[.agg #[iV n0.N, iV n0.S, iV n0.T, .slice a7 a9 a6], iV verts1, iV arcs2] w [] (fun v N => ∃ (d8 : Option Nat) (g9 h0 : Nat) (l4 : List Value), v = .agg #[iV r0.N, iV r0.S, iV r0.T, sV d8 g9 h0] ∧ N = [(eA d8 Wh r0.Arcs l4 131)] ∧ r0.Arcs.length = g9 ∧ g9 ≤ h0 ∧ l4.length = (h0 - g9) * 3 ∧ (d8 = none → h0 = 0)) := by
 unfold Z3p at H; refine Fnc.enter (vs := [.agg #[iV n0.N, iV n0.S, iV n0.T, .slice a7 a9 a6], iV verts1, iV arcs2]) Tryz.func23 rfl rfl (Inv.refl w) ?_; refine sR Y2 rfl ?_; refine We Za ?_; intro b1; refine Xw Zr Zag ?_; intro b3; refine dN ?_; refine Zl ?_; obtain ⟨g5, H⟩ := Yj H; obtain ⟨r6, e7, H⟩ := Zj H; obtain ⟨g8, H⟩ := Yj H; refine rG Y9 rfl ?_; refine Zi Za Ui ?_; refine Zn Za Zo Yy rfl ?_; refine Zd Za ?_; refine Z06 g5 Zf ?_; refine Ya Z52 Za (fun wc hwc => Z31 (x0 := n0.N) (n1 := (verts1 - 1)) wc  e7) ?_; rintro _ _ ⟨rfl, rfl⟩; refine Xf g8 Zf ?_; refine Yr (t := 24) [iV 0, iV 0, iV 0, .slice none 0 0] [0, 1, 2, 3] Za (by simp only [Ym, setCells, Value.cells, List.toList_toArray, List.getD_cons_zero, List.getD_cons_succ, List.set_cons_zero, List.set_cons_succ]; rfl) (by kernel_rfl) ?_; refine Xw Zr Zag ?_; intro b9; refine Xl Za Zb Z2u Zr ?_; refine dN ?_; refine Zq (aT [2, 3, 6, 7] rfl) ?_; refine Zl ?_; obtain ⟨b6, m2, H⟩ := Zj H; refine rG Y7 rfl ?_; refine Zi Za Uz ?_; refine Zn Za Zo Xb rfl ?_; refine Zi Za Ui ?_; refine Zn Za Zo Zh rfl ?_; refine Ya Z52 Za (fun wc hwc => Z31 (x0 := n0.S) (n1 := (2 + r6)) wc  m2) ?_; rintro _ _ ⟨rfl, rfl⟩; refine Zi Za Uz ?_; refine Yg (cs' := [iV (2 + r6), iV b6, iV 0, .slice none 0 0]) Za Zb Yf Zr ?_; refine dS ?_; obtain ⟨l5, m3, H⟩ := Zj H; refine rG Y7 rfl ?_; refine Zi Za Gy ?_; refine Zn Za Zo Xb rfl ?_; refine Zi Za Ui ?_; refine Zn Za Zo Zh rfl ?_; refine Ya Z52 Za (fun wc hwc => Z31 (x0 := n0.T) (n1 := (2 + r6)) wc  m3) ?_; rintro _ _ ⟨rfl, rfl⟩; refine Zi Za Gy ?_; refine Yg (cs' := [iV (2 + r6), iV b6, iV l5, .slice none 0 0]) Za Zb Yf Zr ?_; refine dN ?_; refine Zq (aT [2, 3, 6, 7] rfl) ?_; refine Zl ?_; refine sR Y5 rfl ?_; refine Zi Za Uz ?_; refine Zn Za Zo Zh rfl ?_; refine Zi Za Gy ?_; refine Zn Za Zo Zh rfl ?_; refine Yc Zw ?_; refine dN ?_; refine Vi (fun (b8 : Int) => Z1r n0 arcs2 r6 b6 b8 = some r0) (fun (b8 : Int) => [(2, iV arcs2), (3, pV b1), (6, pV b3), (7, pV b9)]) (fun (b8 : Int) => [(eC b1 #[iV n0.N, iV n0.S, iV n0.T, .slice a7 a9 a6] 24), (eC b3 #[iV 0, iV 0, iV 0, .slice none 0 0] 24), (eC b9 #[iV (2 + r6), iV b6, iV b8, .slice none 0 0] 24)]) ?_ ?_
 ·
  rcases Zt H with ⟨h4, H⟩ | ⟨h4, H⟩
  · refine Wc rfl h4 ?_; obtain ⟨m4, m5, H⟩ := Vw H; refine rG Y8 rfl ?_; refine Zi Za Uz ?_; refine Zn Za Zo Zh rfl ?_; refine Xf m4 Zf ?_; refine Zi Za Ui ?_; refine Zn Za Zo Zh rfl ?_; refine TO.rem Zf m5 ?_; refine Zi Za Gy ?_; refine Yg (cs' := [iV (2 + r6), iV b6, iV ((b6 + 1).tmod (2 + r6)), .slice none 0 0]) Za Zb Yf Zr ?_; refine Zk ?_; exact Wj ((b6 + 1).tmod (2 + r6)) H (aF rfl) (Zc Zy (Zc Zp (Zc Zb Zg)))
  · refine Wa rfl h4 ?_; refine T.skip ?_; exact Wj l5 H (aF rfl) (Zc Zy (Zc Zp (Zc Zb Zg)))
 ·
  rintro b8 H; unfold Z1r at H; refine Zl ?_; obtain ⟨h1, H⟩ := Yj H; refine sR Y10 rfl ?_; refine Zi Za Np ?_; refine Zn Za Ll Zh rfl ?_; refine Zi Za Np ?_; refine Zn Za Ll Zh rfl ?_; refine Vn (xs := n0.Arcs) a5.len Zf Ut ?_; refine Zd Za ?_; refine TO.min2 Zf ?_; refine TO.slH (xs := n0.Arcs) a5.len a5.cap h1 Zf Ut Kv ?_; refine Vn (xs := (n0.Arcs.take (min (n0.Arcs.length : Int) arcs2).toNat)) ((RS.take a5 h1).len) Zf Ut ?_; refine Zd Za ?_; refine dN ?_; refine Zq (aT [6, 7, 49, 50, 51] rfl) ?_; refine Zcq (fun (a3 : List Arc) (d6 d7 : Nat) (b5 : Option Nat) (e6 : List Value) => Z9c r6 b6 b8 a3 = some r0 ∧ a3.length = d6 ∧ d6 ≤ d7 ∧ e6.length = (d7 - d6) * 3 ∧ (b5 = none → d7 = 0)) (fun (a3 : List Arc) (d6 d7 : Nat) (b5 : Option Nat) (e6 : List Value) => [(6, pV b3), (7, pV b9)]) (fun (a3 : List Arc) (d6 d7 : Nat) (b5 : Option Nat) (e6 : List Value) => [(eC b3 #[iV 0, iV 0, iV 0, .slice none 0 0] 24), (eC b9 #[iV (2 + r6), iV b6, iV b8, sV b5 d6 d7] 24), (eA b5 Wh a3 e6 131)]) ?_ ?_
  ·
   refine T.block ?_; obtain ⟨m6, e9, m7⟩ := Zj H; refine T.loopE7 (fun (e8 : Nat) (a2 : List Arc) (b7 c4 : Nat) (a4 : Option Nat) (d4 : List Value) (a8 : Int) => Wb (fun s => Z45 n0 arcs2 r6 s.1 s.2) e8 (a2, a8) = some m6 ∧ a2.length = b7 ∧ b7 ≤ c4 ∧ d4.length = (c4 - b7) * 3 ∧ (a4 = none → c4 = 0)) (fun (e8 : Nat) (a2 : List Arc) (b7 c4 : Nat) (a4 : Option Nat) (d4 : List Value) (a8 : Int) => [(6, pV b3), (7, pV b9), (49, .slice a7 ((min (n0.Arcs.length : Int) arcs2).toNat) a6), (50, iV ((n0.Arcs.take (min (n0.Arcs.length : Int) arcs2).toNat).length : Int)), (51, iV a8)]) (fun (e8 : Nat) (a2 : List Arc) (b7 c4 : Nat) (a4 : Option Nat) (d4 : List Value) (a8 : Int) => [(eC b3 #[iV 0, iV 0, iV 0, .slice none 0 0] 24), (eC b9 #[iV (2 + r6), iV b6, iV b8, sV a4 b7 c4] 24), (eA a4 Wh a2 d4 131)]) (fun (e8 : Nat) (a2 : List Arc) (b7 c4 : Nat) (a4 : Option Nat) (d4 : List Value) (a8 : Int) => e8) Xn ([]) 0 0 none ([]) 0 ⟨e9, rfl, (Nat.le_refl _), (Ve 0 _), (fun _ => rfl)⟩ (aF rfl) (Zc Zp (Zc Zp (Pick.none Zg))) ?_; rintro e8 a2 b7 c4 a4 d4 a8 ⟨H, d9, f1, f2, f3⟩; obtain ⟨m8, l6, rfl, H, l7⟩ := Kg H; have H : Z45 n0 arcs2 r6 a2 a8 = some l6 := H; unfold Z45 at H; refine sR Y1 rfl ?_; refine Yc Zw ?_; refine dS ?_; rcases Zt H with ⟨h5, H⟩ | ⟨h5, H⟩
   ·
    refine Wc rfl h5 ?_; refine T.skip ?_; refine Yk ?_; refine Zl ?_; refine T.block ?_; obtain ⟨l8, H⟩ := Yj H; refine sR Y4 rfl ?_; refine Kx (RS.take a5 h1) l8 Zf Ut Kv ?_; refine Z15 (cs := [iV (((n0.Arcs.take (min (n0.Arcs.length : Int) arcs2).toNat).getD a8.toNat default).fr), iV (((n0.Arcs.take (min (n0.Arcs.length : Int) arcs2).toNat).getD a8.toNat default).to), iV (((n0.Arcs.take (min (n0.Arcs.length : Int) arcs2).toNat).getD a8.toNat default).cap)]) default (RS.take a5 h1) l8 Zf Ri ?_; refine Xw Zr Z0d ?_; intro h6; refine Xl Za Zb Kv Zr ?_; refine dN ?_; refine sR Y3 rfl ?_; refine Zi Za Z0l ?_; refine Zn Za Wd Zh rfl ?_; refine aN Za ?_; refine Zl ?_; refine sR Y2 rfl ?_; refine Zd Za ?_; refine Yc Zw ?_; refine dN ?_; refine Vi (fun (d5 : Int) => Z28 n0 arcs2 r6 a2 a8 d5 = some l6) (fun (d5 : Int) => [(6, pV b3), (7, pV b9), (9, pV h6), (10, iV d5), (49, .slice a7 ((min (n0.Arcs.length : Int) arcs2).toNat) a6), (50, iV ((n0.Arcs.take (min (n0.Arcs.length : Int) arcs2).toNat).length : Int)), (51, iV a8)]) (fun (d5 : Int) => [(eC b3 #[iV 0, iV 0, iV 0, .slice none 0 0] 24), (eC b9 #[iV (2 + r6), iV b6, iV b8, sV a4 b7 c4] 24), (eA a4 Wh a2 d4 131), (eC h6 #[iV (((n0.Arcs.take (min (n0.Arcs.length : Int) arcs2).toNat).getD a8.toNat default).fr), iV (((n0.Arcs.take (min (n0.Arcs.length : Int) arcs2).toNat).getD a8.toNat default).to), iV (((n0.Arcs.take (min (n0.Arcs.length : Int) arcs2).toNat).getD a8.toNat default).cap)] 131)]) ?_ ?_
    ·
     rcases Zt H with ⟨h7, H⟩ | ⟨h7, H⟩
     · refine Wc rfl h7 ?_; obtain ⟨m9, n6, H⟩ := Vw H; refine rG Y4 rfl ?_; refine Zd Za ?_; refine Xf m9 Zf ?_; refine Zg9 n6 Za ?_; refine Wu Za ?_; refine Zk ?_; exact Wj (-((((n0.Arcs.take (min (n0.Arcs.length : Int) arcs2).toNat).getD a8.toNat default).cap) + 1)) H (aF rfl) (Zc Zp (Zc Zp (Zc Zp (Zc Zb Zg))))
     · refine Wa rfl h7 ?_; refine T.skip ?_; exact Wj (((n0.Arcs.take (min (n0.Arcs.length : Int) arcs2).toNat).getD a8.toNat default).cap) H (aF rfl) (Zc Zp (Zc Zp (Zc Zp (Zc Zb Zg))))
    ·
     rintro d5 H; unfold Z28 at H; obtain ⟨h2, e40, H⟩ := Zj H; obtain ⟨h3, n7, H⟩ := Zj H; obtain ⟨n8, H⟩ := Yj H; apply Gw [rV [] _, rV [0] _, rV [] _, rV [2] _, rV [] _, rV [4] _, rV [3, 5] _, rV [] _, rV [7] _, rV [] _, rV [9] _, rV [8, 10] _, rV [] _, rV [12] _, rV [6, 11, 13] _, ⟨[14], false, [], fun _ v e => ∃ (f4 : Nat), v = nV f4 1 1 ∧ e = [(eA (some f4) Wh ([(Arc.mk h2 h3 (d5.tmod 1125899906842624))]) ([]) 131)]⟩] [62, 63, 64, 65, 66, 67, 68, 69, 70, 71, 72, 73, 74, 75, 76, 77] 16 (HRk [[]]) [[]] [] [(eC b3 #[iV 0, iV 0, iV 0, .slice none 0 0] 24), (eC b9 #[iV (2 + r6), iV b6, iV b8, sV a4 b7 c4] 24), (eA a4 Wh a2 d4 131), (eC h6 #[iV (((n0.Arcs.take (min (n0.Arcs.length : Int) arcs2).toNat).getD a8.toNat default).fr), iV (((n0.Arcs.take (min (n0.Arcs.length : Int) arcs2).toNat).getD a8.toNat default).to), iV (((n0.Arcs.take (min (n0.Arcs.length : Int) arcs2).toNat).getD a8.toNat default).cap)] 131)]
     · exact Yx
     · exact rfl
     · kernel_rfl
     · kernel_rfl
     · kernel_rfl
     · exact rfl
     · exact rfl
     · exact rfl
     · exact rfl
     · exact Wo (by repeat constructor)
     ·
      refine ⟨?_, ?_, ?_, ?_, ?_, ?_, ?_, ?_, ?_, ?_, ?_, ?_, ?_, ?_, ?_, ?_, trivial⟩
      · rintro vs es Es Hx -; refine Zz (D := []) rfl ?_; refine Zi Za Np ?_; refine Zk ?_; exact Yd rfl ⟨rfl, rfl⟩ (Yb _) rfl
      · rintro vs es Es Hx ⟨⟨f5, h8⟩, -⟩; refine Zz (D := [(62, vs 0)]) rfl ?_; rw [f5]; refine Zn Za Ll Yy rfl ?_; refine Zk ?_; exact Yd rfl ⟨rfl, rfl⟩ (Yb _) (by show [(62, vs 0)] = _; rw [f5])
      · rintro vs es Es Hx -; refine Zz (D := []) rfl ?_; refine Zi Za Rr ?_; refine Zk ?_; exact Yd rfl ⟨rfl, rfl⟩ (Yb _) rfl
      · rintro vs es Es Hx ⟨⟨f6, e9⟩, -⟩; refine Zz (D := [(64, vs 2)]) rfl ?_; rw [f6]; refine Zn Za Zo Vv rfl ?_; refine Zk ?_; exact Yd rfl ⟨rfl, rfl⟩ (Yb _) (by show [(64, vs 2)] = _; rw [f6])
      · rintro vs es Es Hx -; refine Zz (D := []) rfl ?_; refine Zi Za Ui ?_; refine Zk ?_; exact Yd rfl ⟨rfl, rfl⟩ (Yb _) rfl
      · rintro vs es Es Hx ⟨⟨f7, h9⟩, -⟩; refine Zz (D := [(66, vs 4)]) rfl ?_; rw [f7]; refine Zn Za Zo Yy rfl ?_; refine Zk ?_; exact Yd rfl ⟨rfl, rfl⟩ (Yb _) (by show [(66, vs 4)] = _; rw [f7])
      · rintro vs es Es Hx ⟨⟨f8, i2⟩, ⟨f9, i4⟩, -⟩; refine Zz (D := [(65, vs 3), (67, vs 5)]) rfl ?_; rw [f8, f9]; refine Ya Z52 Za (fun wc hwc => Z31 (x0 := ((n0.Arcs.take (min (n0.Arcs.length : Int) arcs2).toNat).getD a8.toNat default).fr) (n1 := (2 + r6)) wc  e40) ?_; rintro _ _ ⟨rfl, rfl⟩; refine Zk ?_; exact Yd rfl ⟨rfl, rfl⟩ (Yb _) (by show [(65, vs 3), (67, vs 5)] = _; rw [f8, f9])
      · rintro vs es Es Hx -; refine Zz (D := []) rfl ?_; refine Zi Za Z0i ?_; refine Zk ?_; exact Yd rfl ⟨rfl, rfl⟩ (Yb _) rfl
      · rintro vs es Es Hx ⟨⟨g0, j0⟩, -⟩; refine Zz (D := [(69, vs 7)]) rfl ?_; rw [g0]; refine Zn Za Zo Vv rfl ?_; refine Zk ?_; exact Yd rfl ⟨rfl, rfl⟩ (Yb _) (by show [(69, vs 7)] = _; rw [g0])
      · rintro vs es Es Hx -; refine Zz (D := []) rfl ?_; refine Zi Za Ui ?_; refine Zk ?_; exact Yd rfl ⟨rfl, rfl⟩ (Yb _) rfl
      · rintro vs es Es Hx ⟨⟨g1, j1⟩, -⟩; refine Zz (D := [(71, vs 9)]) rfl ?_; rw [g1]; refine Zn Za Zo Yy rfl ?_; refine Zk ?_; exact Yd rfl ⟨rfl, rfl⟩ (Yb _) (by show [(71, vs 9)] = _; rw [g1])
      · rintro vs es Es Hx ⟨⟨g2, j2⟩, ⟨c7, e0⟩, -⟩; refine Zz (D := [(70, vs 8), (72, vs 10)]) rfl ?_; rw [g2, c7]; refine Ya Z52 Za (fun wc hwc => Z31 (x0 := ((n0.Arcs.take (min (n0.Arcs.length : Int) arcs2).toNat).getD a8.toNat default).to) (n1 := (2 + r6)) wc  n7) ?_; rintro _ _ ⟨rfl, rfl⟩; refine Zk ?_; exact Yd rfl ⟨rfl, rfl⟩ (Yb _) (by show [(70, vs 8), (72, vs 10)] = _; rw [g2, c7])
      · rintro vs es Es Hx -; refine Zz (D := []) rfl ?_; refine Zd Za ?_; refine Zk ?_; exact Yd rfl ⟨rfl, rfl⟩ (Yb _) rfl
      · rintro vs es Es Hx ⟨⟨c8, e2⟩, -⟩; refine Zz (D := [(74, vs 12)]) rfl ?_; rw [c8]; refine TO.rem Zf (by decide) ?_; refine Zk ?_; exact Yd rfl ⟨rfl, rfl⟩ (Yb _) (by show [(74, vs 12)] = _; rw [c8])
      · rintro vs es Es Hx ⟨⟨g3, j3⟩, ⟨c9, e3⟩, ⟨d1, e4⟩, -⟩; refine Zz (D := [(68, vs 6), (73, vs 11), (75, vs 13)]) rfl ?_; rw [g3, c9, d1]; refine Yr (t := 131) [iV 0, iV 0, iV 0] [0, 1, 2] Za (by simp only [Ym, setCells, Value.cells, List.toList_toArray, List.getD_cons_zero, List.getD_cons_succ, List.set_cons_zero, List.set_cons_succ]; rfl) (by kernel_rfl) ?_; refine Zk ?_; exact Yd rfl ⟨rfl, rfl⟩ (Yb _) (by show [(68, vs 6), (73, vs 11), (75, vs 13)] = _; rw [g3, c9, d1])
      · rintro vs es Es Hx ⟨⟨d3, e5⟩, -⟩; refine Zz (D := [(76, vs 14)]) rfl ?_; rw [d3]; refine Gf [iV 0, iV 0, iV 0] [0] Za Ut Kv Z0d Ys (by simp only [Ym, setCells, Value.cells, List.toList_toArray, List.getD_cons_zero, List.getD_cons_succ, List.set_cons_zero, List.set_cons_succ]; rfl) (by kernel_rfl) ?_; intro f4; refine Zk ?_; exact Yd rfl ⟨f4, rfl, rfl⟩ (Wo (by repeat constructor)) (by show [(76, vs 14)] = _; rw [d3])
     · rintro vs es hb ⟨⟨f5, h8⟩, ⟨l9, m0⟩, ⟨f6, e9⟩, ⟨f8, i2⟩, ⟨f7, h9⟩, ⟨f9, i4⟩, ⟨g3, j3⟩, ⟨g0, j0⟩, ⟨g2, j2⟩, ⟨g1, j1⟩, ⟨c7, e0⟩, ⟨c9, e3⟩, ⟨c8, e2⟩, ⟨d1, e4⟩, ⟨d3, e5⟩, ⟨f4, g4, g6⟩, -⟩ hHR; obtain rfl : hb = [] := hHR; refine Zz (D := [(62, vs 0), (63, vs 1), (64, vs 2), (65, vs 3), (66, vs 4), (67, vs 5), (68, vs 6), (69, vs 7), (70, vs 8), (71, vs 9), (72, vs 10), (73, vs 11), (74, vs 12), (75, vs 13), (76, vs 14), (77, vs 15)]) rfl ?_; refine Kd (H := _ ++ (_ ++ (es 0 ++ (es 1 ++ (es 2 ++ (es 3 ++ (es 4 ++ (es 5 ++ (es 6 ++ (es 7 ++ (es 8 ++ (es 9 ++ (es 10 ++ (es 11 ++ (es 12 ++ (es 13 ++ (es 14 ++ (es 15 ++ ([]))))))))))))))))))) rfl ?_; rw [h8, m0, e9, i2, h9, i4, j3, j0, j2, j1, e0, e3, e2, e4, e5, g6]; rw [f5, l9, f6, f8, f7, f9, g3, g0, g2, g1, c7, c9, c8, d1, d3, g4]; clear g4 d3 d1 c8 c9 c7 g1 g2 g0 g3 f9 f7 f8 f6 l9 f5 h8 m0 e9 i2 h9 i4 j3 j0 j2 j1 e0 e3 e2 e4 e5 g6; refine Z4u (f := Wh) (s := 3) (xs := a2) (ob := a4) (j := d4) (ys := [(Arc.mk h2 h3 (d5.tmod 1125899906842624))]) (fun _ => rfl) (fun _ => rfl) Zgw n8 Zf Zy d9 f1 f2 f3 (fun wc hwc => (hwc.rs (f := Wh) (s := 3) (xs := [(Arc.mk h2 h3 (d5.tmod 1125899906842624))]) (j := ([])) (fun _ => rfl) Jl rfl (Nat.le_refl _) Vh)) ?_; intro g7 m1 n9 j4 j5 j6; refine Zi Za Np ?_; refine Yg (cs' := [iV (2 + r6), iV b6, iV b8, sV g7 (b7 + 1) m1]) Za Zy Zm0 Zr ?_; refine Zk ?_; refine Wq ?_; refine Yk ?_; refine Zq (aT [6, 7, 49, 50, 51] rfl) ?_; obtain ⟨o0, H⟩ := Yj H; refine rG Y2 rfl ?_; refine Xf o0 Zf ?_; refine Zd Za ?_; refine Zk ?_; have H := Uc H l7; exact Zlq m8 (a2 ++ ([(Arc.mk h2 h3 (d5.tmod 1125899906842624))])) (b7 + 1) m1 g7 n9 (a8 + 1) ⟨H, (Z6u d9 rfl), j4, j5, j6⟩ (Nat.lt_succ_self _) (aF rfl) (Zc Zy (Zc Zb (Zc Zb Zg)))
   · refine Wa rfl h5 ?_; refine T.exit ?_; refine Wk ?_; have H := Vt H l7 ▸ m7; refine Wk ?_; refine Ud ?_; exact Zfs a2 b7 c4 a4 d4 ⟨H, d9, f1, f2, f3⟩ (aF rfl) (Zc Zb (Zc Zb (Zc Zb Zg)))
  · rintro a3 d6 d7 b5 e6 ⟨H, j7, j8, j9, l3⟩; unfold Z9c at H; refine sR Y2 rfl ?_; refine Xy Za Vd Yy rfl ?_; refine Xl Za Zb Z2u Zr ?_; refine dN ?_; refine T.ret ?_; obtain rfl := ret1 H; exact Zu Za (Vr rfl Vd Zh rfl) (Zc Zy Zg) ⟨b5, d6, d7, e6, rfl, rfl, j7, j8, j9, l3⟩
theorem Znu (w : World) (H : Z9h = some ()) : Fnc Tryz.prog 257 #[.func (.func 258) #[] #[]] w [] (fun v N => ∃ (a2 : Nat), v = .func (.func 305) #[] #[pV a2] ∧ N = [(eC a2 #[.func (.func 258) #[] #[]] 309)]) := by
 unfold Z9h at H; refine Fnc.enter (vs := [.func (.func 258) #[] #[]]) Tryz.func257 rfl rfl (Inv.refl w) ?_; refine sR Y2 rfl ?_; refine TO.box Za ?_; intro b1; refine aN Za ?_; refine sR Y2 rfl ?_; refine TO.makeFunc Zf ?_; refine aN Za ?_; refine T.ret ?_; exact Zu Za (Res.tmp rfl) (Zc Zb Zg) ⟨b1, rfl, rfl⟩
theorem Zmw (w : World) (H : Z6q = some ()) : Fnc Tryz.prog 257 #[.func (.func 259) #[] #[]] w [] (fun v N => ∃ (a2 : Nat), v = .func (.func 305) #[] #[pV a2] ∧ N = [(eC a2 #[.func (.func 259) #[] #[]] 309)]) := by
 unfold Z6q at H; refine Fnc.enter (vs := [.func (.func 259) #[] #[]]) Tryz.func257 rfl rfl (Inv.refl w) ?_; refine sR Y2 rfl ?_; refine TO.box Za ?_; intro b1; refine aN Za ?_; refine sR Y2 rfl ?_; refine TO.makeFunc Zf ?_; refine aN Za ?_; refine T.ret ?_; exact Zu Za (Res.tmp rfl) (Zc Zb Zg) ⟨b1, rfl, rfl⟩
theorem Ziv (w : World) (H : Z5e = some ()) : Fnc Tryz.prog 190 #[] w [] (fun v N => ∃ (a2 a3 : Nat), v = .agg #[.func (.func 253) #[] #[], iV 10, .func (.func 254) #[] #[], iV 11, .func (.func 255) #[] #[], iV 12, .func (.func 305) #[] #[pV a2], iV 13, .func (.func 305) #[] #[pV a3], iV 14, .func (.func 260) #[] #[], iV 15] ∧ N = [(eC a2 #[.func (.func 258) #[] #[]] 309), (eC a3 #[.func (.func 259) #[] #[]] 309)]) := by
 unfold Z5e at H; refine Fnc.enter (vs := []) Tryz.func190 rfl rfl (Inv.refl w) ?_; refine sR Y1 rfl ?_; refine Xw Zr Zmi ?_; intro b1; refine dS ?_; obtain ⟨⟨⟩, e3, H⟩ := Zj H; obtain ⟨⟨⟩, e6, H⟩ := Zj H; refine rG Y10 rfl ?_; refine Yr (t := 258) [.nilFunc, iV 0] [0, 1] Za (by simp only [Ym, setCells, Value.cells, List.toList_toArray, List.getD_cons_zero, List.getD_cons_succ, List.set_cons_zero, List.set_cons_succ]; rfl) (by kernel_rfl) ?_; refine Yr (t := 258) [.nilFunc, iV 0] [0, 1] Za (by simp only [Ym, setCells, Value.cells, List.toList_toArray, List.getD_cons_zero, List.getD_cons_succ, List.set_cons_zero, List.set_cons_succ]; rfl) (by kernel_rfl) ?_; refine Yr (t := 258) [.nilFunc, iV 0] [0, 1] Za (by simp only [Ym, setCells, Value.cells, List.toList_toArray, List.getD_cons_zero, List.getD_cons_succ, List.set_cons_zero, List.set_cons_succ]; rfl) (by kernel_rfl) ?_; refine Ya Zdp Za (fun wc hwc => Znu  wc  e3) ?_; rintro _ _ ⟨b4, rfl, rfl⟩; refine Yr (t := 258) [.nilFunc, iV 0] [0, 1] Za (by simp only [Ym, setCells, Value.cells, List.toList_toArray, List.getD_cons_zero, List.getD_cons_succ, List.set_cons_zero, List.set_cons_succ]; rfl) (by kernel_rfl) ?_; refine Ya Zdp Za (fun wc hwc => Zmw  wc  e6) ?_; rintro _ _ ⟨b7, rfl, rfl⟩; refine Yr (t := 258) [.nilFunc, iV 0] [0, 1] Za (by simp only [Ym, setCells, Value.cells, List.toList_toArray, List.getD_cons_zero, List.getD_cons_succ, List.set_cons_zero, List.set_cons_succ]; rfl) (by kernel_rfl) ?_; refine Yr (t := 258) [.nilFunc, iV 0] [0, 1] Za (by simp only [Ym, setCells, Value.cells, List.toList_toArray, List.getD_cons_zero, List.getD_cons_succ, List.set_cons_zero, List.set_cons_succ]; rfl) (by kernel_rfl) ?_; refine Yr (t := 259) [.nilFunc, iV 0, .nilFunc, iV 0, .nilFunc, iV 0, .nilFunc, iV 0, .nilFunc, iV 0, .nilFunc, iV 0] [0, 2, 4, 6, 8, 10] Za (by simp only [Ym, setCells, Value.cells, List.toList_toArray, List.getD_cons_zero, List.getD_cons_succ, List.set_cons_zero, List.set_cons_succ]; rfl) (by kernel_rfl) ?_; refine Xl Za Zy Zmn Zr ?_; refine dN ?_; refine Zq (aT [0] rfl) ?_; refine T.ret ?_; exact Zu Za (Vr rfl Znp Zh rfl) (Zc Zy (Zc Zp Zg)) ⟨b4, b7, rfl, rfl⟩
theorem Zis {n0 : Net} {a4 : Option Addr} {a2 a3 : Nat} (w : World) (a5 : RS w [] Wh 3 a4 a2 a3 n0.Arcs) {r0 : Bool} (H : Z6s n0 = some r0) : Fnc Tryz.prog 253 #[.agg #[iV n0.N, iV n0.S, iV n0.T, .slice a4 a2 a3]] w [] (fun v N => v = .bool r0 ∧ N = []) := by
 unfold Z6s at H; refine Fnc.enter (vs := [.agg #[iV n0.N, iV n0.S, iV n0.T, .slice a4 a2 a3]]) Tryz.func253 rfl rfl (Inv.refl w) ?_; refine sR Y2 rfl ?_; refine We Za ?_; intro b1; refine aN Za ?_; refine Zl ?_; rcases Zt H with ⟨g3, H⟩ | ⟨g3, H⟩
 · refine rG Y9 rfl ?_; refine Zi Za Ui ?_; refine Zn Za Zo Zh rfl ?_; refine Yc Zw ?_; refine Zd Za ?_; refine Yo (t := 6) (b' := true) rfl (decide_eq_true g3) ?_; refine Zi Za Ui ?_; refine Zn Za Zo Zh rfl ?_; refine Yc Zw ?_; refine Xo Zf ?_; refine aN Za ?_; refine Zq (aT [2] rfl) ?_; refine T.ret ?_; obtain rfl := ret1 H; exact Zu Za (Res.tmp rfl) Zg ⟨rfl, rfl⟩
 · refine rG Y9 rfl ?_; refine Zi Za Ui ?_; refine Zn Za Zo Zh rfl ?_; refine Yc Zw ?_; refine Zd Za ?_; refine Yo (t := 6) (b' := false) rfl (decide_eq_false g3) ?_; refine Zs Za ?_; refine Zs Za ?_; refine Zs Za ?_; refine Xm Zf ?_; refine aN Za ?_; refine Zq (aT [2] rfl) ?_; refine T.ret ?_; obtain rfl := ret1 H; exact Zu Za (Res.tmp rfl) Zg ⟨rfl, rfl⟩
theorem Zkx {n0 : Net} {a4 : Option Addr} {a2 a3 : Nat} (w : World) (a5 : RS w [] Wh 3 a4 a2 a3 n0.Arcs) {r0 : Bool} (H : Z7a n0 = some r0) : Fnc Tryz.prog 254 #[.agg #[iV n0.N, iV n0.S, iV n0.T, .slice a4 a2 a3]] w [] (fun v N => v = .bool r0 ∧ N = []) := by
 unfold Z7a at H; refine Fnc.enter (vs := [.agg #[iV n0.N, iV n0.S, iV n0.T, .slice a4 a2 a3]]) Tryz.func254 rfl rfl (Inv.refl w) ?_; refine sR Y2 rfl ?_; refine We Za ?_; intro b1; refine aN Za ?_; refine sR Y5 rfl ?_; refine Zi Za Np ?_; refine Zn Za Ll Zh rfl ?_; refine Vn (xs := n0.Arcs) a5.len Zf Ut ?_; refine Yc Zw ?_; refine aN Za ?_; refine T.ret ?_; obtain rfl := ret1 H; exact Zu Za (Res.tmp rfl) Zg ⟨rfl, rfl⟩
theorem Lv {n0 : Net} {v1 : Int} {a4 : Option Addr} {a2 a3 : Nat} (w : World) (a5 : RS w [] Wh 3 a4 a2 a3 n0.Arcs) {r0 : Bool} (H : Rg n0 v1 = some r0) : Fnc Tryz.prog 256 #[.agg #[iV n0.N, iV n0.S, iV n0.T, .slice a4 a2 a3], iV v1] w [] (fun v N => v = .bool r0 ∧ N = []) := by
 unfold Rg at H; refine Fnc.enter (vs := [.agg #[iV n0.N, iV n0.S, iV n0.T, .slice a4 a2 a3], iV v1]) Tryz.func256 rfl rfl (Inv.refl w) ?_; refine sR Y2 rfl ?_; refine We Za ?_; intro b1; refine aN Za ?_; refine Zl ?_; rcases Zt H with ⟨g3, H⟩ | ⟨g3, H⟩
 · refine rG Y9 rfl ?_; refine Zd Za ?_; refine Yc Zw ?_; refine Zd Za ?_; refine Yo (t := 7) (b' := true) rfl (decide_eq_true g3) ?_; refine Zd Za ?_; refine Zi Za Ui ?_; refine Zn Za Zo Zh rfl ?_; refine Yc Zw ?_; refine Xo Zf ?_; refine aN Za ?_; refine Zq (aT [4] rfl) ?_; refine T.ret ?_; obtain rfl := ret1 H; exact Zu Za (Res.tmp rfl) Zg ⟨rfl, rfl⟩
 · refine rG Y9 rfl ?_; refine Zd Za ?_; refine Yc Zw ?_; refine Zd Za ?_; refine Yo (t := 7) (b' := false) rfl (decide_eq_false g3) ?_; refine Zs Za ?_; refine Zs Za ?_; refine Zs Za ?_; refine Zs Za ?_; refine Xm Zf ?_; refine aN Za ?_; refine Zq (aT [4] rfl) ?_; refine T.ret ?_; obtain rfl := ret1 H; exact Zu Za (Res.tmp rfl) Zg ⟨rfl, rfl⟩
theorem Zjy {n0 : Net} {a5 : Option Addr} {a3 a4 : Nat} (w : World) (a2 : RS w [] Wh 3 a5 a3 a4 n0.Arcs) {r0 : Bool} (H : Z76 n0 = some r0) : Fnc Tryz.prog 255 #[.agg #[iV n0.N, iV n0.S, iV n0.T, .slice a5 a3 a4]] w [] (fun v N => v = .bool r0 ∧ N = []) := by
 unfold Z76 at H; refine Fnc.enter (vs := [.agg #[iV n0.N, iV n0.S, iV n0.T, .slice a5 a3 a4]]) Tryz.func255 rfl rfl (Inv.refl w) ?_; refine sR Y2 rfl ?_; refine We Za ?_; intro b1; refine aN Za ?_; refine Zl ?_; obtain ⟨r3, e4, H⟩ := Zj H; rcases Zt H with ⟨g5, H⟩ | ⟨g5, H⟩
 ·
  obtain ⟨r6, e7, H⟩ := Zj H; rcases Zt H with ⟨g8, H⟩ | ⟨g8, H⟩
  · refine rG Y18 rfl ?_; refine Xy Za Vd Zh rfl ?_; refine Zi Za Uz ?_; refine Zn Za Zo Zh rfl ?_; refine Ya Rv Za (fun wc hwc => Lv (n0 := n0) (v1 := n0.S) wc (a2.mono hwc) e4) ?_; rintro _ _ ⟨rfl, rfl⟩; refine Zd Za ?_; refine Yo (t := 7) (b' := true) rfl g5 ?_; refine Xy Za Vd Zh rfl ?_; refine Zi Za Gy ?_; refine Zn Za Zo Zh rfl ?_; refine Ya Rv Za (fun wc hwc => Lv (n0 := n0) (v1 := n0.T) wc (a2.mono hwc) e7) ?_; rintro _ _ ⟨rfl, rfl⟩; refine Xo Zf ?_; refine Zd Za ?_; refine Yo (t := 13) (b' := true) rfl g8 ?_; refine Zi Za Uz ?_; refine Zn Za Zo Zh rfl ?_; refine Zi Za Gy ?_; refine Zn Za Zo Zh rfl ?_; refine Yc Zw ?_; refine Xo Zf ?_; refine aN Za ?_; refine Zq (aT [2] rfl) ?_; refine T.ret ?_; obtain rfl := ret1 H; exact Zu Za (Res.tmp rfl) Zg ⟨rfl, rfl⟩
  · refine rG Y18 rfl ?_; refine Xy Za Vd Zh rfl ?_; refine Zi Za Uz ?_; refine Zn Za Zo Zh rfl ?_; refine Ya Rv Za (fun wc hwc => Lv (n0 := n0) (v1 := n0.S) wc (a2.mono hwc) e4) ?_; rintro _ _ ⟨rfl, rfl⟩; refine Zd Za ?_; refine Yo (t := 7) (b' := true) rfl g5 ?_; refine Xy Za Vd Zh rfl ?_; refine Zi Za Gy ?_; refine Zn Za Zo Zh rfl ?_; refine Ya Rv Za (fun wc hwc => Lv (n0 := n0) (v1 := n0.T) wc (a2.mono hwc) e7) ?_; rintro _ _ ⟨rfl, rfl⟩; refine Xo Zf ?_; refine Zd Za ?_; refine Yo (t := 13) (b' := false) rfl (Bool.eq_false_iff.2 g8) ?_; refine Zs Za ?_; refine Zs Za ?_; refine Zs Za ?_; refine Zs Za ?_; refine Zs Za ?_; refine Xm Zf ?_; refine aN Za ?_; refine Zq (aT [2] rfl) ?_; refine T.ret ?_; obtain rfl := ret1 H; exact Zu Za (Res.tmp rfl) Zg ⟨rfl, rfl⟩
 · refine rG Y18 rfl ?_; refine Xy Za Vd Zh rfl ?_; refine Zi Za Uz ?_; refine Zn Za Zo Zh rfl ?_; refine Ya Rv Za (fun wc hwc => Lv (n0 := n0) (v1 := n0.S) wc (a2.mono hwc) e4) ?_; rintro _ _ ⟨rfl, rfl⟩; refine Zd Za ?_; refine Yo (t := 7) (b' := false) rfl (Bool.eq_false_iff.2 g5) ?_; refine Zs Za ?_; refine Zs Za ?_; refine Zs Za ?_; refine Zs Za ?_; refine Xm Zf ?_; refine Zd Za ?_; refine Zs Za ?_; refine Zs Za ?_; refine Zs Za ?_; refine Zs Za ?_; refine Zs Za ?_; refine Xm Zf ?_; refine aN Za ?_; refine Zq (aT [2] rfl) ?_; refine T.ret ?_; obtain rfl := ret1 H; exact Zu Za (Res.tmp rfl) Zg ⟨rfl, rfl⟩
theorem Zia {n0 : Net} {a1 : Arc} {a5 : Option Addr} {a2 a4 : Nat} (w : World) (a3 : RS w [] Wh 3 a5 a2 a4 n0.Arcs) {r0 : Bool} (H : Z33 n0 a1 = some r0) : Fnc Tryz.prog 258 #[.agg #[iV n0.N, iV n0.S, iV n0.T, .slice a5 a2 a4], .agg #[iV a1.fr, iV a1.to, iV a1.cap]] w [] (fun v N => v = .bool r0 ∧ N = []) := by
 unfold Z33 at H; refine Fnc.enter (vs := [.agg #[iV n0.N, iV n0.S, iV n0.T, .slice a5 a2 a4], .agg #[iV a1.fr, iV a1.to, iV a1.cap]]) Tryz.func258 rfl rfl (Inv.refl w) ?_; refine sR Y3 rfl ?_; refine We Za ?_; intro b1; refine We Za ?_; intro b3; refine aN Za ?_; refine Zl ?_; obtain ⟨r5, e6, H⟩ := Zj H; rcases Zt H with ⟨g7, H⟩ | ⟨g7, H⟩
 · obtain ⟨r8, e9, H⟩ := Zj H; refine rG Y11 rfl ?_; refine Xy Za Vd Yy rfl ?_; refine Zi Za Rr ?_; refine Zn Za Zo Zh rfl ?_; refine Ya Rv Za (fun wc hwc => Lv (n0 := n0) (v1 := a1.fr) wc (a3.mono hwc) e6) ?_; rintro _ _ ⟨rfl, rfl⟩; refine Zd Za ?_; refine Yo (t := 9) (b' := true) rfl g7 ?_; refine Xy Za Vd Yy rfl ?_; refine Zi Za Z0i ?_; refine Zn Za Zo Zh rfl ?_; refine Ya Rv Za (fun wc hwc => Lv (n0 := n0) (v1 := a1.to) wc (a3.mono hwc) e9) ?_; rintro _ _ ⟨rfl, rfl⟩; refine Xo Zf ?_; refine aN Za ?_; refine Zq (aT [4] rfl) ?_; refine T.ret ?_; obtain rfl := ret1 H; exact Zu Za (Res.tmp rfl) Zg ⟨rfl, rfl⟩
 · refine rG Y11 rfl ?_; refine Xy Za Vd Yy rfl ?_; refine Zi Za Rr ?_; refine Zn Za Zo Zh rfl ?_; refine Ya Rv Za (fun wc hwc => Lv (n0 := n0) (v1 := a1.fr) wc (a3.mono hwc) e6) ?_; rintro _ _ ⟨rfl, rfl⟩; refine Zd Za ?_; refine Yo (t := 9) (b' := false) rfl (Bool.eq_false_iff.2 g7) ?_; refine Zs Za ?_; refine Zs Za ?_; refine Zs Za ?_; refine Zs Za ?_; refine Xm Zf ?_; refine aN Za ?_; refine Zq (aT [4] rfl) ?_; refine T.ret ?_; obtain rfl := ret1 H; exact Zu Za (Res.tmp rfl) Zg ⟨rfl, rfl⟩
theorem Zlv {a0 : Arc} {c2 : Net} {a7 a8 a4 a3 : Nat} {a2 : Option Addr} (w : World) (a9 : HB w [] a7 [.func (.func 258) #[] #[]]) (a6 : RS w [] Wh 3 a2 a4 a3 c2.Arcs) (a5 : HB w [] a8 [iV c2.N, iV c2.S, iV c2.T, .slice a2 a4 a3]) {r0 : Bool} (H : Z5h a0 c2 = some r0) : Fnc Tryz.prog 307 #[.agg #[iV a0.fr, iV a0.to, iV a0.cap], pV a7, pV a8] w [] (fun v N => v = .bool r0 ∧ N = []) := by
 unfold Z5h at H; refine Fnc.enter (vs := [.agg #[iV a0.fr, iV a0.to, iV a0.cap], pV a7, pV a8]) Tryz.func307 rfl rfl (Inv.refl w) ?_; refine sR Y2 rfl ?_; refine We Za ?_; intro b1; refine aN Za ?_; refine Zl ?_; obtain ⟨r3, e4, H⟩ := Zj H; refine rG Y6 rfl ?_; refine Vf a9 Zf Zcn ?_; refine Ze7 a5 Zf Vd ?_; refine Xy Za Ri Zh rfl ?_; refine Jk Znk Zf (fun wc hwc => Zia (n0 := c2) (a1 := a0) wc (a6.mono hwc) e4) ?_; rintro _ _ ⟨rfl, rfl⟩; refine TO.not Za ?_; refine aN Za ?_; refine Zq (aT [4] rfl) ?_; refine T.ret ?_; obtain rfl := ret1 H; exact Zu Za (Res.tmp rfl) Zg ⟨rfl, rfl⟩
theorem Zov {s0 : List Arc} {f1_1 : Net} {b5 a6 : Option Addr} {b7 b6 a2 a3 a4 a5 : Nat} (w : World) (b8 : RS w [] Wh 3 b5 b7 b6 s0) (a9 : HB w [] a2 [.func (.func 258) #[] #[]]) (a7 : RS w [] Wh 3 a6 a4 a5 f1_1.Arcs) (a8 : HB w [] a3 [iV f1_1.N, iV f1_1.S, iV f1_1.T, .slice a6 a4 a5]) {r0 : Int} (H : Z89 s0 f1_1 = some r0) : Fnc Tryz.prog 316 #[.slice b5 b7 b6, .func (.func 307) #[] #[pV a2, pV a3]] w [] (fun v N => v = iV r0 ∧ N = []) := by
 unfold Z89 at H; refine Fnc.enter (vs := [.slice b5 b7 b6, .func (.func 307) #[] #[pV a2, pV a3]]) Tryz.func316 rfl rfl (Inv.refl w) ?_; refine sR Y1 rfl ?_; refine aN Za ?_; refine Zl ?_; refine sR Y3 rfl ?_; refine Zd Za ?_; refine Vn (xs := s0) b8.len Zf Ut ?_; refine Zd Za ?_; refine dN ?_; refine Vi (fun (u8 : Unit) => Zbj = some r0) (fun (u8 : Unit) => []) (fun (u8 : Unit) => []) ?_ ?_
 ·
  refine T.block ?_; obtain ⟨c8, c9, c7⟩ := Zj H; refine Z8h (fun (b9 : Nat) (x1 : Int) => Wb (fun s => Z2k s0 f1_1 s) b9 x1 = some c8) (fun (b9 : Nat) (x1 : Int) => [(0, .slice b5 b7 b6), (1, .func (.func 307) #[] #[pV a2, pV a3]), (7, iV (s0.length : Int)), (8, iV x1)]) (fun (b9 : Nat) (x1 : Int) => []) (fun (b9 : Nat) (x1 : Int) => b9) Xn 0 c9 (aF rfl) Zg ?_; rintro b9 x1 H; obtain ⟨d1, d3, rfl, H, c4⟩ := Kg H; have H : Z2k s0 f1_1 x1 = some d3 := H; unfold Z2k at H; refine sR Y1 rfl ?_; refine Yc Zw ?_; refine dS ?_; rcases Zt H with ⟨g2, H⟩ | ⟨g2, H⟩
  ·
   refine Wc rfl g2 ?_; refine T.skip ?_; refine Yk ?_; refine Zl ?_; refine T.block ?_; refine sR Y2 rfl ?_; refine Zd Za ?_; refine aN Za ?_; refine Zl ?_; obtain ⟨g3, H⟩ := Yj H; obtain ⟨r4, e5, H⟩ := Zj H; refine rG Y6 rfl ?_; refine Zd Za ?_; refine Zd Za ?_; refine Zd Za ?_; refine Kx b8 g3 Zf Ut Kv ?_; refine Z15 (cs := [iV ((s0.getD x1.toNat default).fr), iV ((s0.getD x1.toNat default).to), iV ((s0.getD x1.toNat default).cap)]) default b8 g3 Zf Ri ?_; refine Jk Zc6 Zf (fun wc hwc => Zlv (a0 := (s0.getD x1.toNat default)) (c2 := f1_1) wc (a9.mono hwc) (a7.mono hwc) (a8.mono hwc) e5) ?_; rintro _ _ ⟨rfl, rfl⟩; refine dN ?_; rcases Zt H with ⟨g6, H⟩ | ⟨g6, H⟩
   · refine Xd rfl g6 ?_; refine sR Y2 rfl ?_; refine Zd Za ?_; refine aN Za ?_; refine Zq (aT [4] rfl) ?_; refine T.ret ?_; refine Vo ?_; refine Yv ?_; have H := Vt H c4 ▸ c7; refine Yv ?_; refine Vo ?_; refine Yv ?_; obtain rfl := ret1 H; exact Zu Za (Res.tmp rfl) Zg ⟨rfl, rfl⟩
   · refine Xj rfl (Bool.eq_false_iff.2 g6) ?_; refine T.skip ?_; refine Wq ?_; refine Yk ?_; refine Zq (aT [0, 1, 7, 8] rfl) ?_; obtain ⟨g7, H⟩ := Yj H; refine rG Y2 rfl ?_; refine Xf g7 Zf ?_; refine Zd Za ?_; refine Zk ?_; have H := Uc H c4; exact Z6c d1 (x1 + 1) H (Nat.lt_succ_self _) (aF rfl) Zg
  · refine Wa rfl g2 ?_; refine T.exit ?_; refine Wk ?_; have H := Vt H c4 ▸ c7; refine Wk ?_; refine Ud ?_; exact Wj () H Vu Zg
 · rintro u8 H; unfold Zbj at H; refine sR Y1 rfl ?_; refine aN Za ?_; refine T.ret ?_; obtain rfl := ret1 H; exact Zu Za (Res.tmp rfl) Zg ⟨rfl, rfl⟩
theorem Zi6 {s0 : List Arc} {f1_1 : Net} {b5 a4 : Option Addr} {b7 b6 a5 a6 a2 a3 : Nat} (w : World) (b8 : RS w [] Wh 3 b5 b7 b6 s0) (a9 : HB w [] a5 [.func (.func 258) #[] #[]]) (a7 : RS w [] Wh 3 a4 a2 a3 f1_1.Arcs) (a8 : HB w [] a6 [iV f1_1.N, iV f1_1.S, iV f1_1.T, .slice a4 a2 a3]) {r0 : Bool} (H : Z8d s0 f1_1 = some r0) : Fnc Tryz.prog 306 #[.slice b5 b7 b6, .func (.func 307) #[] #[pV a5, pV a6]] w [] (fun v N => v = .bool r0 ∧ N = []) := by
 unfold Z8d at H; refine Fnc.enter (vs := [.slice b5 b7 b6, .func (.func 307) #[] #[pV a5, pV a6]]) Tryz.func306 rfl rfl (Inv.refl w) ?_; refine sR Y1 rfl ?_; refine aN Za ?_; refine Zl ?_; obtain ⟨r1, e2, H⟩ := Zj H; refine rG Y5 rfl ?_; refine Zd Za ?_; refine Zd Za ?_; refine Ya Zfc Za (fun wc hwc => Zov (s0 := s0) (f1_1 := f1_1) wc (b8.mono hwc) (a9.mono hwc) (a7.mono hwc) (a8.mono hwc) e2) ?_; rintro _ _ ⟨rfl, rfl⟩; refine Yc Zw ?_; refine aN Za ?_; refine T.ret ?_; obtain rfl := ret1 H; exact Zu Za (Res.tmp rfl) Zg ⟨rfl, rfl⟩
theorem Zn9 {n0 : Net} {a4 : Option Addr} {a2 a3 a7 : Nat} (w : World) (a5 : RS w [] Wh 3 a4 a2 a3 n0.Arcs) (a6 : HB w [] a7 [.func (.func 258) #[] #[]]) {r0 : Bool} (H : Z2l n0 = some r0) : Fnc Tryz.prog 305 #[.agg #[iV n0.N, iV n0.S, iV n0.T, .slice a4 a2 a3], pV a7] w [] (fun v N => v = .bool r0 ∧ N = []) := by
 unfold Z2l at H; refine Fnc.enter (vs := [.agg #[iV n0.N, iV n0.S, iV n0.T, .slice a4 a2 a3], pV a7]) Tryz.func305 rfl rfl (Inv.refl w) ?_; refine sR Y2 rfl ?_; refine We Za ?_; intro b1; refine aN Za ?_; refine Zl ?_; obtain ⟨r3, e4, H⟩ := Zj H; refine rG Y6 rfl ?_; refine Zi Za Np ?_; refine Zn Za Ll Zh rfl ?_; refine TO.makeFunc Zf ?_; refine Ya Zde Za (fun wc hwc => Zi6 (s0 := n0.Arcs) (f1_1 := n0) wc (a5.mono hwc) (a6.mono hwc) (a5.mono hwc) (hwc.hb (cs := [iV n0.N, iV n0.S, iV n0.T, .slice a4 a2 a3]) Zh) e4) ?_; rintro _ _ ⟨rfl, rfl⟩; refine TO.not Za ?_; refine aN Za ?_; refine Zq (aT [3] rfl) ?_; refine T.ret ?_; obtain rfl := ret1 H; exact Zu Za (Res.tmp rfl) Zg ⟨rfl, rfl⟩
theorem Zke {n0 : Net} {a1 : Arc} {a4 : Option Addr} {a2 a3 : Nat} (w : World) (a5 : RS w [] Wh 3 a4 a2 a3 n0.Arcs) {r0 : Bool} (H : Z91 n0 a1 = some r0) : Fnc Tryz.prog 259 #[.agg #[iV n0.N, iV n0.S, iV n0.T, .slice a4 a2 a3], .agg #[iV a1.fr, iV a1.to, iV a1.cap]] w [] (fun v N => v = .bool r0 ∧ N = []) := by
 unfold Z91 at H; refine Fnc.enter (vs := [.agg #[iV n0.N, iV n0.S, iV n0.T, .slice a4 a2 a3], .agg #[iV a1.fr, iV a1.to, iV a1.cap]]) Tryz.func259 rfl rfl (Inv.refl w) ?_; refine sR Y3 rfl ?_; refine We Za ?_; intro b1; refine We Za ?_; intro b3; refine aN Za ?_; refine sR Y4 rfl ?_; refine Zi Za Z0l ?_; refine Zn Za Wd Zh rfl ?_; refine Yc Zw ?_; refine aN Za ?_; refine T.ret ?_; obtain rfl := ret1 H; exact Zu Za (Res.tmp rfl) Zg ⟨rfl, rfl⟩
theorem Znn {a0 : Arc} {c2 : Net} {a7 a8 a4 a3 : Nat} {a2 : Option Addr} (w : World) (a9 : HB w [] a7 [.func (.func 259) #[] #[]]) (a6 : RS w [] Wh 3 a2 a4 a3 c2.Arcs) (a5 : HB w [] a8 [iV c2.N, iV c2.S, iV c2.T, .slice a2 a4 a3]) {r0 : Bool} (H : Z7h a0 c2 = some r0) : Fnc Tryz.prog 307 #[.agg #[iV a0.fr, iV a0.to, iV a0.cap], pV a7, pV a8] w [] (fun v N => v = .bool r0 ∧ N = []) := by
 unfold Z7h at H; refine Fnc.enter (vs := [.agg #[iV a0.fr, iV a0.to, iV a0.cap], pV a7, pV a8]) Tryz.func307 rfl rfl (Inv.refl w) ?_; refine sR Y2 rfl ?_; refine We Za ?_; intro b1; refine aN Za ?_; refine Zl ?_; obtain ⟨r3, e4, H⟩ := Zj H; refine rG Y6 rfl ?_; refine Vf a9 Zf Zcn ?_; refine Ze7 a5 Zf Vd ?_; refine Xy Za Ri Zh rfl ?_; refine Jk Zo8 Zf (fun wc hwc => Zke (n0 := c2) (a1 := a0) wc (a6.mono hwc) e4) ?_; rintro _ _ ⟨rfl, rfl⟩; refine TO.not Za ?_; refine aN Za ?_; refine Zq (aT [4] rfl) ?_; refine T.ret ?_; obtain rfl := ret1 H; exact Zu Za (Res.tmp rfl) Zg ⟨rfl, rfl⟩
theorem Zmo {s0 : List Arc} {f1_1 : Net} {b5 a6 : Option Addr} {b7 b6 a2 a3 a4 a5 : Nat} (w : World) (b8 : RS w [] Wh 3 b5 b7 b6 s0) (a9 : HB w [] a2 [.func (.func 259) #[] #[]]) (a7 : RS w [] Wh 3 a6 a4 a5 f1_1.Arcs) (a8 : HB w [] a3 [iV f1_1.N, iV f1_1.S, iV f1_1.T, .slice a6 a4 a5]) {r0 : Int} (H : Z92 s0 f1_1 = some r0) : Fnc Tryz.prog 316 #[.slice b5 b7 b6, .func (.func 307) #[] #[pV a2, pV a3]] w [] (fun v N => v = iV r0 ∧ N = []) := by
 unfold Z92 at H; refine Fnc.enter (vs := [.slice b5 b7 b6, .func (.func 307) #[] #[pV a2, pV a3]]) Tryz.func316 rfl rfl (Inv.refl w) ?_; refine sR Y1 rfl ?_; refine aN Za ?_; refine Zl ?_; refine sR Y3 rfl ?_; refine Zd Za ?_; refine Vn (xs := s0) b8.len Zf Ut ?_; refine Zd Za ?_; refine dN ?_; refine Vi (fun (u8 : Unit) => Zaz = some r0) (fun (u8 : Unit) => []) (fun (u8 : Unit) => []) ?_ ?_
 ·
  refine T.block ?_; obtain ⟨c8, c9, c7⟩ := Zj H; refine Z8h (fun (b9 : Nat) (x1 : Int) => Wb (fun s => Z53 s0 f1_1 s) b9 x1 = some c8) (fun (b9 : Nat) (x1 : Int) => [(0, .slice b5 b7 b6), (1, .func (.func 307) #[] #[pV a2, pV a3]), (7, iV (s0.length : Int)), (8, iV x1)]) (fun (b9 : Nat) (x1 : Int) => []) (fun (b9 : Nat) (x1 : Int) => b9) Xn 0 c9 (aF rfl) Zg ?_; rintro b9 x1 H; obtain ⟨d1, d3, rfl, H, c4⟩ := Kg H; have H : Z53 s0 f1_1 x1 = some d3 := H; unfold Z53 at H; refine sR Y1 rfl ?_; refine Yc Zw ?_; refine dS ?_; rcases Zt H with ⟨g2, H⟩ | ⟨g2, H⟩
  ·
   refine Wc rfl g2 ?_; refine T.skip ?_; refine Yk ?_; refine Zl ?_; refine T.block ?_; refine sR Y2 rfl ?_; refine Zd Za ?_; refine aN Za ?_; refine Zl ?_; obtain ⟨g3, H⟩ := Yj H; obtain ⟨r4, e5, H⟩ := Zj H; refine rG Y6 rfl ?_; refine Zd Za ?_; refine Zd Za ?_; refine Zd Za ?_; refine Kx b8 g3 Zf Ut Kv ?_; refine Z15 (cs := [iV ((s0.getD x1.toNat default).fr), iV ((s0.getD x1.toNat default).to), iV ((s0.getD x1.toNat default).cap)]) default b8 g3 Zf Ri ?_; refine Jk Zc6 Zf (fun wc hwc => Znn (a0 := (s0.getD x1.toNat default)) (c2 := f1_1) wc (a9.mono hwc) (a7.mono hwc) (a8.mono hwc) e5) ?_; rintro _ _ ⟨rfl, rfl⟩; refine dN ?_; rcases Zt H with ⟨g6, H⟩ | ⟨g6, H⟩
   · refine Xd rfl g6 ?_; refine sR Y2 rfl ?_; refine Zd Za ?_; refine aN Za ?_; refine Zq (aT [4] rfl) ?_; refine T.ret ?_; refine Vo ?_; refine Yv ?_; have H := Vt H c4 ▸ c7; refine Yv ?_; refine Vo ?_; refine Yv ?_; obtain rfl := ret1 H; exact Zu Za (Res.tmp rfl) Zg ⟨rfl, rfl⟩
   · refine Xj rfl (Bool.eq_false_iff.2 g6) ?_; refine T.skip ?_; refine Wq ?_; refine Yk ?_; refine Zq (aT [0, 1, 7, 8] rfl) ?_; obtain ⟨g7, H⟩ := Yj H; refine rG Y2 rfl ?_; refine Xf g7 Zf ?_; refine Zd Za ?_; refine Zk ?_; have H := Uc H c4; exact Z6c d1 (x1 + 1) H (Nat.lt_succ_self _) (aF rfl) Zg
  · refine Wa rfl g2 ?_; refine T.exit ?_; refine Wk ?_; have H := Vt H c4 ▸ c7; refine Wk ?_; refine Ud ?_; exact Wj () H Vu Zg
 · rintro u8 H; unfold Zaz at H; refine sR Y1 rfl ?_; refine aN Za ?_; refine T.ret ?_; obtain rfl := ret1 H; exact Zu Za (Res.tmp rfl) Zg ⟨rfl, rfl⟩
theorem Zoi {s0 : List Arc} {f1_1 : Net} {b5 a4 : Option Addr} {b7 b6 a5 a6 a2 a3 : Nat} (w : World) (b8 : RS w [] Wh 3 b5 b7 b6 s0) (a9 : HB w [] a5 [.func (.func 259) #[] #[]]) (a7 : RS w [] Wh 3 a4 a2 a3 f1_1.Arcs) (a8 : HB w [] a6 [iV f1_1.N, iV f1_1.S, iV f1_1.T, .slice a4 a2 a3]) {r0 : Bool} (H : Z66 s0 f1_1 = some r0) : Fnc Tryz.prog 306 #[.slice b5 b7 b6, .func (.func 307) #[] #[pV a5, pV a6]] w [] (fun v N => v = .bool r0 ∧ N = []) := by
 unfold Z66 at H; refine Fnc.enter (vs := [.slice b5 b7 b6, .func (.func 307) #[] #[pV a5, pV a6]]) Tryz.func306 rfl rfl (Inv.refl w) ?_; refine sR Y1 rfl ?_; refine aN Za ?_; refine Zl ?_; obtain ⟨r1, e2, H⟩ := Zj H; refine rG Y5 rfl ?_; refine Zd Za ?_; refine Zd Za ?_; refine Ya Zfc Za (fun wc hwc => Zmo (s0 := s0) (f1_1 := f1_1) wc (b8.mono hwc) (a9.mono hwc) (a7.mono hwc) (a8.mono hwc) e2) ?_; rintro _ _ ⟨rfl, rfl⟩; refine Yc Zw ?_; refine aN Za ?_; refine T.ret ?_; obtain rfl := ret1 H; exact Zu Za (Res.tmp rfl) Zg ⟨rfl, rfl⟩
theorem Zja {n0 : Net} {a4 : Option Addr} {a2 a3 a7 : Nat} (w : World) (a5 : RS w [] Wh 3 a4 a2 a3 n0.Arcs) (a6 : HB w [] a7 [.func (.func 259) #[] #[]]) {r0 : Bool} (H : Z3w n0 = some r0) : Fnc Tryz.prog 305 #[.agg #[iV n0.N, iV n0.S, iV n0.T, .slice a4 a2 a3], pV a7] w [] (fun v N => v = .bool r0 ∧ N = []) := by
 unfold Z3w at H; refine Fnc.enter (vs := [.agg #[iV n0.N, iV n0.S, iV n0.T, .slice a4 a2 a3], pV a7]) Tryz.func305 rfl rfl (Inv.refl w) ?_; refine sR Y2 rfl ?_; refine We Za ?_; intro b1; refine aN Za ?_; refine Zl ?_; obtain ⟨r3, e4, H⟩ := Zj H; refine rG Y6 rfl ?_; refine Zi Za Np ?_; refine Zn Za Ll Zh rfl ?_; refine TO.makeFunc Zf ?_; refine Ya Zde Za (fun wc hwc => Zoi (s0 := n0.Arcs) (f1_1 := n0) wc (a5.mono hwc) (a6.mono hwc) (a5.mono hwc) (hwc.hb (cs := [iV n0.N, iV n0.S, iV n0.T, .slice a4 a2 a3]) Zh) e4) ?_; rintro _ _ ⟨rfl, rfl⟩; refine TO.not Za ?_; refine aN Za ?_; refine Zq (aT [3] rfl) ?_; refine T.ret ?_; obtain rfl := ret1 H; exact Zu Za (Res.tmp rfl) Zg ⟨rfl, rfl⟩
theorem Zol {n0 : Net} {a6 : Option Addr} {a4 a5 : Nat} (w : World) (a7 : RS w [] Wh 3 a6 a4 a5 n0.Arcs) {r0 : Int} {r1 : Bool} (H : Z3t n0 = some (r0, r1)) : Fnc Tryz.prog 261 #[.agg #[iV n0.N, iV n0.S, iV n0.T, .slice a6 a4 a5]] w [] (fun v N => v = .tuple #[iV r0, .bool r1] ∧ N = []) := by
 unfold Z3t at H; refine Fnc.enter (vs := [.agg #[iV n0.N, iV n0.S, iV n0.T, .slice a6 a4 a5]]) Tryz.func261 rfl rfl (Inv.refl w) ?_; refine sR Y3 rfl ?_; refine We Za ?_; intro b1; refine Wu Za ?_; refine aN Za ?_; refine sR Y1 rfl ?_; refine aN Za ?_; refine Zl ?_; refine sR Y4 rfl ?_; refine Zi Za Np ?_; refine Zn Za Ll Zh rfl ?_; refine Vn (xs := n0.Arcs) a7.len Zf Ut ?_; refine Zd Za ?_; refine dN ?_; refine Vi (fun (a3 : Int) => Z7v a3 = some (r0, r1)) (fun (a3 : Int) => [(4, iV a3)]) (fun (a3 : Int) => []) ?_ ?_
 ·
  refine T.block ?_; obtain ⟨c4, c7, b8⟩ := Zj H; refine Z0g (fun (a8 : Nat) (a2 x4 : Int) => Wb (fun s => Z3z n0 s.1 s.2) a8 (a2, x4) = some c4) (fun (a8 : Nat) (a2 x4 : Int) => [(4, iV a2), (8, .slice a6 a4 a5), (9, iV (n0.Arcs.length : Int)), (10, iV x4)]) (fun (a8 : Nat) (a2 x4 : Int) => []) (fun (a8 : Nat) (a2 x4 : Int) => a8) Xn 4611686018427387904 0 c7 (aF rfl) Zg ?_; rintro a8 a2 x4 H; obtain ⟨c8, b9, rfl, H, b5⟩ := Kg H; have H : Z3z n0 a2 x4 = some b9 := H; unfold Z3z at H; refine sR Y1 rfl ?_; refine Yc Zw ?_; refine dS ?_; rcases Zt H with ⟨g5, H⟩ | ⟨g5, H⟩
  ·
   refine Wc rfl g5 ?_; refine T.skip ?_; refine Yk ?_; refine Zl ?_; refine T.block ?_; obtain ⟨g6, H⟩ := Yj H; refine sR Y4 rfl ?_; refine Kx a7 g6 Zf Ut Kv ?_; refine Z15 (cs := [iV ((n0.Arcs.getD x4.toNat default).fr), iV ((n0.Arcs.getD x4.toNat default).to), iV ((n0.Arcs.getD x4.toNat default).cap)]) default a7 g6 Zf Ri ?_; refine Xw Zr Z0d ?_; intro b7; refine Xl Za Zb Kv Zr ?_; refine dS ?_; refine Zl ?_; refine Vi (fun (a9 : Bool) => Z57 n0 a2 x4 a9 = some b9) (fun (a9 : Bool) => [(4, iV a2), (6, pV b7), (8, .slice a6 a4 a5), (9, iV (n0.Arcs.length : Int)), (10, iV x4), (22, .bool a9)]) (fun (a9 : Bool) => [(eC b7 #[iV ((n0.Arcs.getD x4.toNat default).fr), iV ((n0.Arcs.getD x4.toNat default).to), iV ((n0.Arcs.getD x4.toNat default).cap)] 131)]) ?_ ?_
   ·
    rcases Zt H with ⟨g9, H⟩ | ⟨g9, H⟩
    · refine rG Y9 rfl ?_; refine Zi Za Z0l ?_; refine Zn Za Wd Zh rfl ?_; refine Yc Zw ?_; refine Zd Za ?_; refine Yo (t := 17) (b' := true) rfl (decide_eq_true g9) ?_; refine Zs Za ?_; refine Zs Za ?_; refine Zs Za ?_; refine Zs Za ?_; refine Xo Zf ?_; refine Zk ?_; exact Wj true H (aF rfl) (Zc Zb Zg)
    · refine rG Y9 rfl ?_; refine Zi Za Z0l ?_; refine Zn Za Wd Zh rfl ?_; refine Yc Zw ?_; refine Zd Za ?_; refine Yo (t := 17) (b' := false) rfl (decide_eq_false g9) ?_; refine Zi Za Z0l ?_; refine Zn Za Wd Zh rfl ?_; refine Zd Za ?_; refine Yc Zw ?_; refine Xm Zf ?_; refine Zk ?_; exact Wj (decide (a2 < ((n0.Arcs.getD x4.toNat default).cap))) H (aF rfl) (Zc Zb Zg)
   ·
    rintro a9 H; unfold Z57 at H; rcases Zt H with ⟨b6, H⟩ | ⟨b6, H⟩
    · refine Xd rfl b6 ?_; refine sR Y2 rfl ?_; refine Wu Za ?_; refine aN Za ?_; refine T.ret ?_; refine Yv ?_; refine Vo ?_; refine Yv ?_; have H := Vt H b5 ▸ b8; refine Yv ?_; refine Vo ?_; refine Yv ?_; obtain ⟨rfl, rfl⟩ := ret2 H; exact Ky Za (Res.tmp rfl) (Res.tmp rfl) Zg ⟨rfl, rfl⟩
    · refine Xj rfl (Bool.eq_false_iff.2 b6) ?_; refine T.skip ?_; refine Yk ?_; obtain ⟨c9, H⟩ := Yj H; refine rG Y5 rfl ?_; refine Zd Za ?_; refine Zi Za Z0l ?_; refine Zn Za Wd Zh rfl ?_; refine Z06 c9 Zf ?_; refine Wu Za ?_; refine Zk ?_; refine Wq ?_; refine Yk ?_; obtain ⟨d1, H⟩ := Yj H; refine rG Y2 rfl ?_; refine Xf d1 Zf ?_; refine Zd Za ?_; refine Zk ?_; have H := Uc H b5; exact Gz c8 (a2 - ((n0.Arcs.getD x4.toNat default).cap)) (x4 + 1) H (Nat.lt_succ_self _) (aF rfl) Zg
  · refine Wa rfl g5 ?_; refine T.exit ?_; refine Wk ?_; have H := Vt H b5 ▸ b8; refine Wk ?_; refine Ud ?_; exact Wj a2 H (aF rfl) Zg
 · rintro a3 H; unfold Z7v at H; obtain ⟨d3, H⟩ := Yj H; refine sR Y4 rfl ?_; refine Zd Za ?_; refine Z06 d3 Zf ?_; refine Wu Za ?_; refine aN Za ?_; refine T.ret ?_; obtain ⟨rfl, rfl⟩ := ret2 H; exact Ky Za (Res.tmp rfl) (Res.tmp rfl) Zg ⟨rfl, rfl⟩
theorem Zkc {n0 : Net} {a4 : Option Addr} {a2 a3 : Nat} (w : World) (a5 : RS w [] Wh 3 a4 a2 a3 n0.Arcs) {r0 : Bool} (H : Z96 n0 = some r0) : Fnc Tryz.prog 260 #[.agg #[iV n0.N, iV n0.S, iV n0.T, .slice a4 a2 a3]] w [] (fun v N => v = .bool r0 ∧ N = []) := by
 unfold Z96 at H; refine Fnc.enter (vs := [.agg #[iV n0.N, iV n0.S, iV n0.T, .slice a4 a2 a3]]) Tryz.func260 rfl rfl (Inv.refl w) ?_; refine sR Y2 rfl ?_; refine We Za ?_; intro b1; refine aN Za ?_; refine Zl ?_; obtain ⟨⟨r3, r4⟩, e5, H⟩ := Zj H; refine rG Y7 rfl ?_; refine Xy Za Vd Zh rfl ?_; refine Ya Znd Za (fun wc hwc => Zol (n0 := n0) wc (a5.mono hwc) e5) ?_; rintro _ _ ⟨rfl, rfl⟩; refine Zd Za ?_; refine TO.extract Zf ?_; refine TO.extract Zf ?_; refine Wu Za ?_; refine aN Za ?_; refine Zq (aT [4] rfl) ?_; refine sR Y2 rfl ?_; refine Zd Za ?_; refine aN Za ?_; refine T.ret ?_; obtain rfl := ret1 H; exact Zu Za (Res.tmp rfl) Zg ⟨rfl, rfl⟩
theorem Zmj {n0 : Net} {a5 : Option Addr} {a3 a4 : Nat} (w : World) (a2 : RS w [] Wh 3 a5 a3 a4 n0.Arcs) {r0 : Int} (H : Z4s n0 = some r0) : Fnc Tryz.prog 108 #[.agg #[iV n0.N, iV n0.S, iV n0.T, .slice a5 a3 a4]] w [] (fun v N => v = iV r0 ∧ N = []) := by
 unfold Z4s at H; refine Fnc.enter (vs := [.agg #[iV n0.N, iV n0.S, iV n0.T, .slice a5 a3 a4]]) Tryz.func108 rfl rfl (Inv.refl w) ?_; refine sR Y2 rfl ?_; refine We Za ?_; intro b1; refine aN Za ?_; refine Zl ?_; refine Zl ?_; obtain ⟨⟨⟩, e3, H⟩ := Zj H; refine rG Y2 rfl ?_; refine Ya Zk8 Za (fun wc hwc => Ziv  wc  e3) ?_; rintro _ _ ⟨b4, b5, rfl, rfl⟩; refine Zd Za ?_; refine dN ?_; refine Vi (fun (a6 : Unit) => Z9b = some r0) (fun (a6 : Unit) => []) (fun (a6 : Unit) => []) ?_ ?_
 ·
  refine T.block ?_; refine Zcb ?_; refine RT.round ?_; refine sR Y1 rfl ?_; refine Lh (b := true) Zw (by first | decide | rfl) ?_; refine dS ?_; refine Xd rfl rfl ?_; refine T.skip ?_; refine Yk ?_; refine Zl ?_; refine T.block ?_; refine sR Y3 rfl ?_; refine Z20 (vs := [.func (.func 253) #[] #[], iV 10]) Zf Z0p Z1u (by decide) rfl ?_; refine Xw Zr Z26 ?_; intro b8; refine Xl Za Zb Z1d Zr ?_; refine dS ?_; obtain ⟨d4, c4, H⟩ := Zj H; refine rG Y5 rfl ?_; refine Zi Za Z13 ?_; refine Zn Za Z2a Zh rfl ?_; refine Xy Za Vd Vv rfl ?_; refine Jk Zin Zf (fun wc hwc => Zis (n0 := n0) wc (a2.mono hwc) c4) ?_; rintro _ _ ⟨rfl, rfl⟩; refine TO.not Za ?_; refine dN ?_; refine Zq (aT [1, 5, 6, 4, 13] rfl) ?_; rcases Zt H with ⟨a7, H⟩ | ⟨a7, H⟩
  · refine Xd rfl a7 ?_; refine sR Y3 rfl ?_; refine Zi Za Z10 ?_; refine Zn Za Z14 Zh rfl ?_; refine aN Za ?_; refine T.ret ?_; refine Vo ?_; refine Yv ?_; refine Yv ?_; refine Vo ?_; refine Yv ?_; obtain rfl := ret1 H; exact Zu Za (Res.tmp rfl) Zg ⟨rfl, rfl⟩
  ·
   refine Xj rfl (Bool.eq_false_iff.2 a7) ?_; refine T.skip ?_; refine Wq ?_; refine Yk ?_; refine rG Y2 rfl ?_; refine Rm (r := 1) (by decide) Zf ?_; refine Zd Za ?_; refine Zk ?_; refine X.round ?_; refine RT.round ?_; refine sR Y1 rfl ?_; refine Lh (b := true) Zw (by first | decide | rfl) ?_; refine dS ?_; refine Xd rfl rfl ?_; refine T.skip ?_; refine Yk ?_; refine Zl ?_; refine T.block ?_; refine sR Y3 rfl ?_; refine Z20 (vs := [.func (.func 254) #[] #[], iV 11]) Zf Z0p Z1u (by decide) rfl ?_; refine Xw Zr Z26 ?_; intro d5; refine Xl Za Zb Z1d Zr ?_; refine dS ?_; obtain ⟨d6, c7, H⟩ := Zj H; refine rG Y5 rfl ?_; refine Zi Za Z13 ?_; refine Zn Za Z2a Zh rfl ?_; refine Xy Za Vd Jl rfl ?_; refine Jk Zkh Zf (fun wc hwc => Zkx (n0 := n0) wc (a2.mono hwc) c7) ?_; rintro _ _ ⟨rfl, rfl⟩; refine TO.not Za ?_; refine dN ?_; rcases Zt H with ⟨a8, H⟩ | ⟨a8, H⟩
   · refine Xd rfl a8 ?_; refine sR Y3 rfl ?_; refine Zi Za Z10 ?_; refine Zn Za Z14 Zh rfl ?_; refine aN Za ?_; refine Zq (aT [2] rfl) ?_; refine T.ret ?_; refine Vo ?_; refine Yv ?_; refine Yv ?_; refine Vo ?_; refine Yv ?_; obtain rfl := ret1 H; exact Zu Za (Res.tmp rfl) Zg ⟨rfl, rfl⟩
   ·
    refine Xj rfl (Bool.eq_false_iff.2 a8) ?_; refine T.skip ?_; refine Wq ?_; refine Yk ?_; refine Zq (aT [1, 5, 6] rfl) ?_; refine rG Y2 rfl ?_; refine Rm (r := 2) (by decide) Zf ?_; refine Zd Za ?_; refine Zk ?_; refine X.round ?_; refine RT.round ?_; refine sR Y1 rfl ?_; refine Lh (b := true) Zw (by first | decide | rfl) ?_; refine dS ?_; refine Xd rfl rfl ?_; refine T.skip ?_; refine Yk ?_; refine Zl ?_; refine T.block ?_; refine sR Y3 rfl ?_; refine Z20 (vs := [.func (.func 255) #[] #[], iV 12]) Zf Z0p Z1u (by decide) rfl ?_; refine Xw Zr Z26 ?_; intro d7; refine Xl Za Zb Z1d Zr ?_; refine dS ?_; obtain ⟨d8, c8, H⟩ := Zj H; refine rG Y5 rfl ?_; refine Zi Za Z13 ?_; refine Zn Za Z2a Zh rfl ?_; refine Xy Za Vd mm5 rfl ?_; refine Jk Zj9 Zf (fun wc hwc => Zjy (n0 := n0) wc (a2.mono hwc) c8) ?_; rintro _ _ ⟨rfl, rfl⟩; refine TO.not Za ?_; refine dN ?_; rcases Zt H with ⟨a9, H⟩ | ⟨a9, H⟩
    · refine Xd rfl a9 ?_; refine sR Y3 rfl ?_; refine Zi Za Z10 ?_; refine Zn Za Z14 Zh rfl ?_; refine aN Za ?_; refine Zq (aT [2] rfl) ?_; refine T.ret ?_; refine Vo ?_; refine Yv ?_; refine Yv ?_; refine Vo ?_; refine Yv ?_; obtain rfl := ret1 H; exact Zu Za (Res.tmp rfl) Zg ⟨rfl, rfl⟩
    ·
     refine Xj rfl (Bool.eq_false_iff.2 a9) ?_; refine T.skip ?_; refine Wq ?_; refine Yk ?_; refine Zq (aT [1, 5, 6] rfl) ?_; refine rG Y2 rfl ?_; refine Rm (r := 3) (by decide) Zf ?_; refine Zd Za ?_; refine Zk ?_; refine X.round ?_; refine RT.round ?_; refine sR Y1 rfl ?_; refine Lh (b := true) Zw (by first | decide | rfl) ?_; refine dS ?_; refine Xd rfl rfl ?_; refine T.skip ?_; refine Yk ?_; refine Zl ?_; refine T.block ?_; refine sR Y3 rfl ?_; refine Z20 (vs := [.func (.func 305) #[] #[pV b4], iV 13]) Zf Z0p Z1u (by decide) rfl ?_; refine Xw Zr Z26 ?_; intro d9; refine Xl Za Zb Z1d Zr ?_; refine dS ?_; obtain ⟨e0, c9, H⟩ := Zj H; refine rG Y5 rfl ?_; refine Zi Za Z13 ?_; refine Zn Za Z2a Zh rfl ?_; refine Xy Za Vd mm6 rfl ?_; refine Jk Zdn Zf (fun wc hwc => Zn9 (n0 := n0) wc (a2.mono hwc) (hwc.hb (cs := [.func (.func 258) #[] #[]]) Jl) c9) ?_; rintro _ _ ⟨rfl, rfl⟩; refine TO.not Za ?_; refine dN ?_; rcases Zt H with ⟨b6, H⟩ | ⟨b6, H⟩
     · refine Xd rfl b6 ?_; refine sR Y3 rfl ?_; refine Zi Za Z10 ?_; refine Zn Za Z14 Zh rfl ?_; refine aN Za ?_; refine Zq (aT [2] rfl) ?_; refine T.ret ?_; refine Vo ?_; refine Yv ?_; refine Yv ?_; refine Vo ?_; refine Yv ?_; obtain rfl := ret1 H; exact Zu Za (Res.tmp rfl) Zg ⟨rfl, rfl⟩
     ·
      refine Xj rfl (Bool.eq_false_iff.2 b6) ?_; refine T.skip ?_; refine Wq ?_; refine Yk ?_; refine Zq (aT [1, 5, 6] rfl) ?_; refine rG Y2 rfl ?_; refine Rm (r := 4) (by decide) Zf ?_; refine Zd Za ?_; refine Zk ?_; refine X.round ?_; refine RT.round ?_; refine sR Y1 rfl ?_; refine Lh (b := true) Zw (by first | decide | rfl) ?_; refine dS ?_; refine Xd rfl rfl ?_; refine T.skip ?_; refine Yk ?_; refine Zl ?_; refine T.block ?_; refine sR Y3 rfl ?_; refine Z20 (vs := [.func (.func 305) #[] #[pV b5], iV 14]) Zf Z0p Z1u (by decide) rfl ?_; refine Xw Zr Z26 ?_; intro e2; refine Xl Za Zb Z1d Zr ?_; refine dS ?_; obtain ⟨e4, d1, H⟩ := Zj H; refine rG Y5 rfl ?_; refine Zi Za Z13 ?_; refine Zn Za Z2a Zh rfl ?_; refine Xy Za Vd mm7 rfl ?_; refine Jk Zdn Zf (fun wc hwc => Zja (n0 := n0) wc (a2.mono hwc) (hwc.hb (cs := [.func (.func 259) #[] #[]]) mm6) d1) ?_; rintro _ _ ⟨rfl, rfl⟩; refine TO.not Za ?_; refine dN ?_; rcases Zt H with ⟨b7, H⟩ | ⟨b7, H⟩
      · refine Xd rfl b7 ?_; refine sR Y3 rfl ?_; refine Zi Za Z10 ?_; refine Zn Za Z14 Zh rfl ?_; refine aN Za ?_; refine Zq (aT [2] rfl) ?_; refine T.ret ?_; refine Vo ?_; refine Yv ?_; refine Yv ?_; refine Vo ?_; refine Yv ?_; obtain rfl := ret1 H; exact Zu Za (Res.tmp rfl) Zg ⟨rfl, rfl⟩
      ·
       refine Xj rfl (Bool.eq_false_iff.2 b7) ?_; refine T.skip ?_; refine Wq ?_; refine Yk ?_; refine Zq (aT [1, 5, 6] rfl) ?_; refine rG Y2 rfl ?_; refine Rm (r := 5) (by decide) Zf ?_; refine Zd Za ?_; refine Zk ?_; refine X.round ?_; refine RT.round ?_; refine sR Y1 rfl ?_; refine Lh (b := true) Zw (by first | decide | rfl) ?_; refine dS ?_; refine Xd rfl rfl ?_; refine T.skip ?_; refine Yk ?_; refine Zl ?_; refine T.block ?_; refine sR Y3 rfl ?_; refine Z20 (vs := [.func (.func 260) #[] #[], iV 15]) Zf Z0p Z1u (by decide) rfl ?_; refine Xw Zr Z26 ?_; intro e5; refine Xl Za Zb Z1d Zr ?_; refine dS ?_; obtain ⟨e6, d3, H⟩ := Zj H; refine rG Y5 rfl ?_; refine Zi Za Z13 ?_; refine Zn Za Z2a Zh rfl ?_; refine Xy Za Vd mm8 rfl ?_; refine Jk Zm7 Zf (fun wc hwc => Zkc (n0 := n0) wc (a2.mono hwc) d3) ?_; rintro _ _ ⟨rfl, rfl⟩; refine TO.not Za ?_; refine dN ?_; rcases Zt H with ⟨b9, H⟩ | ⟨b9, H⟩
       · refine Xd rfl b9 ?_; refine sR Y3 rfl ?_; refine Zi Za Z10 ?_; refine Zn Za Z14 Zh rfl ?_; refine aN Za ?_; refine Zq (aT [2] rfl) ?_; refine T.ret ?_; refine Vo ?_; refine Yv ?_; refine Yv ?_; refine Vo ?_; refine Yv ?_; obtain rfl := ret1 H; exact Zu Za (Res.tmp rfl) Zg ⟨rfl, rfl⟩
       · refine Xj rfl (Bool.eq_false_iff.2 b9) ?_; refine T.skip ?_; refine Wq ?_; refine Yk ?_; refine Zq (aT [1, 5, 6] rfl) ?_; refine rG Y2 rfl ?_; refine Rm (r := 6) (by decide) Zf ?_; refine Zd Za ?_; refine Zk ?_; refine X.round ?_; refine RT.round ?_; refine sR Y1 rfl ?_; refine Lh (b := false) Zw (by first | decide | rfl) ?_; refine dS ?_; refine Xj rfl rfl ?_; refine T.exit ?_; refine Wk ?_; refine Wk ?_; refine Ud ?_; exact Wj () H Vu Zg
 · rintro a6 H; unfold Z9b at H; refine sR Y1 rfl ?_; refine aN Za ?_; refine T.ret ?_; obtain rfl := ret1 H; exact Zu Za (Res.tmp rfl) Zg ⟨rfl, rfl⟩
theorem Zoj {n0 : Net} {a4 : Option Addr} {a2 a3 : Nat} (w : World) (a7 : RS w [] Wh 3 a4 a2 a3 n0.Arcs) {r0 : List Int} (H : Z39 n0 = some r0) : Fnc Tryz.prog 109 #[.agg #[iV n0.N, iV n0.S, iV n0.T, .slice a4 a2 a3]] w [] (fun v N => ∃ (b8 : Option Nat) (c8 c9 : Nat) (d8 : List Value), v = sV b8 c8 c9 ∧ N = [(eI b8 r0 d8 3)] ∧ r0.length = c8 ∧ c8 ≤ c9 ∧ d8.length = (c9 - c8) * 1 ∧ (b8 = none → c9 = 0)) := by
 unfold Z39 at H; refine Fnc.enter (vs := [.agg #[iV n0.N, iV n0.S, iV n0.T, .slice a4 a2 a3]]) Tryz.func109 rfl rfl (Inv.refl w) ?_; refine sR Y2 rfl ?_; refine We Za ?_; intro b1; refine aN Za ?_; obtain ⟨g3, g4, H⟩ := Vw H; refine sR Y5 rfl ?_; refine Zi Za Ui ?_; refine Zn Za Zo Zh rfl ?_; refine Xf g3 Zf ?_; refine Z18 g4 Zf Xg Yf Lg Ry rfl ?_; intro b5; refine aN Za ?_; refine Zl ?_; refine sR Y4 rfl ?_; refine Zi Za Np ?_; refine Zn Za Ll Yy rfl ?_; refine Vn (xs := n0.Arcs) a7.len Zf Ut ?_; refine Zd Za ?_; refine dN ?_; refine Vi (fun (a6 : List Int) => Z5w n0 a6 = some r0 ∧ a6.length = (n0.N + 1).toNat) (fun (a6 : List Int) => [(1, pV b1), (3, nV b5 ((n0.N + 1).toNat) ((n0.N + 1).toNat))]) (fun (a6 : List Int) => [(eC b1 #[iV n0.N, iV n0.S, iV n0.T, .slice a4 a2 a3] 24), (eI (some b5) a6 ([]) 3)]) ?_ ?_
 ·
  refine T.block ?_; obtain ⟨f1, f2, f3⟩ := Zj H; refine Z0g (fun (c4 : Nat) (a8 : List Int) (x9 : Int) => Wb (fun s => Z3l n0 s.1 s.2) c4 (a8, x9) = some f1 ∧ a8.length = (n0.N + 1).toNat) (fun (c4 : Nat) (a8 : List Int) (x9 : Int) => [(1, pV b1), (3, nV b5 ((n0.N + 1).toNat) ((n0.N + 1).toNat)), (12, .slice a4 a2 a3), (13, iV (n0.Arcs.length : Int)), (14, iV x9)]) (fun (c4 : Nat) (a8 : List Int) (x9 : Int) => [(eC b1 #[iV n0.N, iV n0.S, iV n0.T, .slice a4 a2 a3] 24), (eI (some b5) a8 ([]) 3)]) (fun (c4 : Nat) (a8 : List Int) (x9 : Int) => c4) Xn (List.replicate ((n0.N + 1).toNat) (0 : Int)) 0 ⟨f2, List.length_replicate⟩ (aF rfl) (Zc Zp (Zc Zb Zg)) ?_; rintro c4 a8 x9 ⟨H, b9⟩; obtain ⟨d9, f4, rfl, H, d1⟩ := Kg H; have H : Z3l n0 a8 x9 = some f4 := H; unfold Z3l at H; refine sR Y1 rfl ?_; refine Yc Zw ?_; refine dS ?_; rcases Zt H with ⟨d3, H⟩ | ⟨d3, H⟩
  ·
   refine Wc rfl d3 ?_; refine T.skip ?_; refine Yk ?_; refine Zl ?_; refine T.block ?_; obtain ⟨e0, H⟩ := Yj H; refine sR Y4 rfl ?_; refine Kx a7 e0 Zf Ut Kv ?_; refine Z15 (cs := [iV ((n0.Arcs.getD x9.toNat default).fr), iV ((n0.Arcs.getD x9.toNat default).to), iV ((n0.Arcs.getD x9.toNat default).cap)]) default a7 e0 Zf Ri ?_; refine Xw Zr Z0d ?_; intro h1; refine Xl Za Zb Kv Zr ?_; refine dN ?_; refine sR Y5 rfl ?_; refine Zi Za Rr ?_; refine Zn Za Zo Zh rfl ?_; refine Zi Za Z0i ?_; refine Zn Za Zo Zh rfl ?_; refine Yc Zw ?_; refine dN ?_; rcases Zt H with ⟨d4, H⟩ | ⟨d4, H⟩
   · refine Wc rfl d4 ?_; obtain ⟨f5, e2, f6, e3, H⟩ := gd4 H; refine sR Y9 rfl ?_; refine Zd Za ?_; refine Zi Za Rr ?_; refine Zn Za Zo Zh rfl ?_; refine Xf f5 Zf ?_; refine Nq b9 e2 Zf Xg Yf ?_; refine Z35 e2 Za Zo Xb ?_; refine Xf f6 Zf ?_; refine Nq b9 e3 Zf Xg Yf ?_; refine Z0a e3 Za Zy Yf ?_; refine dN ?_; refine Zq (aT [1, 3, 12, 13, 14, 5] rfl) ?_; obtain ⟨f7, e4, f8, e5, H⟩ := gd4 H; refine rG Y9 rfl ?_; refine Zd Za ?_; refine Zi Za Z0i ?_; refine Zn Za Zo Yy rfl ?_; refine Xf f7 Zf ?_; refine Nq (List.length_set.trans b9) e4 Zf Xg Yf ?_; refine Z35 e4 Za Zo Zh ?_; refine Xf f8 Zf ?_; refine Nq (List.length_set.trans b9) e5 Zf Xg Yf ?_; refine Z0a e5 Za Zb Yf ?_; refine Zk ?_; refine Wq ?_; refine Yk ?_; refine Zq (aT [1, 3, 12, 13, 14] rfl) ?_; obtain ⟨f9, H⟩ := Yj H; refine rG Y2 rfl ?_; refine Xf f9 Zf ?_; refine Zd Za ?_; refine Zk ?_; have H := Uc H d1; exact Gz d9 ((a8.set (((n0.Arcs.getD x9.toNat default).fr) + 1).toNat ((a8.getD (((n0.Arcs.getD x9.toNat default).fr) + 1).toNat 0) + 1)).set (((n0.Arcs.getD x9.toNat default).to) + 1).toNat (((a8.set (((n0.Arcs.getD x9.toNat default).fr) + 1).toNat ((a8.getD (((n0.Arcs.getD x9.toNat default).fr) + 1).toNat 0) + 1)).getD (((n0.Arcs.getD x9.toNat default).to) + 1).toNat 0) + 1)) (x9 + 1) ⟨H, (List.length_set.trans (List.length_set.trans b9))⟩ (Nat.lt_succ_self _) (aF rfl) (Zc Zy (Zc Zb Zg))
   · refine Wa rfl d4 ?_; refine T.skip ?_; refine Wq ?_; refine Yk ?_; refine Zq (aT [1, 3, 12, 13, 14] rfl) ?_; obtain ⟨g0, H⟩ := Yj H; refine rG Y2 rfl ?_; refine Xf g0 Zf ?_; refine Zd Za ?_; refine Zk ?_; have H := Uc H d1; exact Gz d9 a8 (x9 + 1) ⟨H, b9⟩ (Nat.lt_succ_self _) (aF rfl) (Zc Zp (Zc Zp Zg))
  · refine Wa rfl d3 ?_; refine T.exit ?_; refine Wk ?_; have H := Vt H d1 ▸ f3; refine Wk ?_; refine Ud ?_; exact Wj a8 ⟨H, b9⟩ (aF rfl) (Zc Zb (Zc Zb Zg))
 ·
  rintro a6 ⟨H, d5⟩; unfold Z5w at H; refine Zl ?_; refine sR Y3 rfl ?_; refine Zi Za Ui ?_; refine Zn Za Zo Zh rfl ?_; refine Zd Za ?_; refine dN ?_; refine Vi (fun (a9 : List Int) => Z5o a9 = some r0 ∧ a9.length = (n0.N + 1).toNat) (fun (a9 : List Int) => [(3, nV b5 ((n0.N + 1).toNat) ((n0.N + 1).toNat))]) (fun (a9 : List Int) => [(eI (some b5) a9 ([]) 3)]) ?_ ?_
  ·
   refine T.block ?_; obtain ⟨g1, g2, g5⟩ := Zj H; refine Z0g (fun (c7 : Nat) (a5 : List Int) (b6 : Int) => Wb (fun s => Z51 n0 s.1 s.2) c7 (a5, b6) = some g1 ∧ a5.length = (n0.N + 1).toNat) (fun (c7 : Nat) (a5 : List Int) (b6 : Int) => [(3, nV b5 ((n0.N + 1).toNat) ((n0.N + 1).toNat)), (41, iV n0.N), (42, iV b6)]) (fun (c7 : Nat) (a5 : List Int) (b6 : Int) => [(eI (some b5) a5 ([]) 3)]) (fun (c7 : Nat) (a5 : List Int) (b6 : Int) => c7) Xn a6 0 ⟨g2, d5⟩ (aF rfl) (Zc Zp Zg) ?_; rintro c7 a5 b6 ⟨H, b7⟩; obtain ⟨g6, g7, rfl, H, e6⟩ := Kg H; have H : Z51 n0 a5 b6 = some g7 := H; unfold Z51 at H; refine sR Y1 rfl ?_; refine Yc Zw ?_; refine dS ?_; rcases Zt H with ⟨d6, H⟩ | ⟨d6, H⟩
   ·
    refine Wc rfl d6 ?_; refine T.skip ?_; refine Yk ?_; refine Zl ?_; refine T.block ?_; refine sR Y2 rfl ?_; refine Zd Za ?_; refine aN Za ?_; obtain ⟨g8, e7, e8, g9, H⟩ := gd4 H; obtain ⟨e9, H⟩ := Yj H; apply Zcl [(45, _), (46, _), (47, _), (48, _), (49, _), (50, _), (51, _), (52, _), (53, _)]
    · exact Yx
    · kernel_rfl
    · kernel_rfl
    · exact rfl
    · exact rfl
    ·
     refine ⟨?_, ?_, ?_, ?_, ?_, ?_, ?_, ?_, ?_, trivial⟩
     · intro Es; refine Zd Za ?_; exact Zk (X.ob rfl (Yb _))
     · intro Es; refine Zd Za ?_; exact Zk (X.ob rfl (Yb _))
     · intro Es; refine Xf g8 Zf ?_; exact Zk (X.ob rfl (Yb _))
     · intro Es; refine Nq b7 e7 Zf Xg Yf ?_; exact Zk (X.ob rfl (Yb _))
     · intro Es; refine Z35 e7 Za Zo Zh ?_; exact Zk (X.ob rfl (Yb _))
     · intro Es; refine Zd Za ?_; exact Zk (X.ob rfl (Yb _))
     · intro Es; refine Zd Za ?_; exact Zk (X.ob rfl (Yb _))
     · intro Es; refine Nq b7 e8 Zf Xg Yf ?_; exact Zk (X.ob rfl (Yb _))
     · intro Es; refine Z35 e8 Za Zo Zh ?_; exact Zk (X.ob rfl (Yb _))
    refine Xf g9 Zf ?_; refine Nq b7 e9 Zf Xg Yf ?_; refine Z0a e9 Za Zb Yf ?_; refine Zk ?_; refine Wq ?_; refine Yk ?_; refine Zq (aT [3, 41, 42] rfl) ?_; obtain ⟨h0, H⟩ := Yj H; refine rG Y2 rfl ?_; refine Xf h0 Zf ?_; refine Zd Za ?_; refine Zk ?_; have H := Uc H e6; exact Gz g6 (a5.set (b6 + 1).toNat ((a5.getD (b6 + 1).toNat 0) + (a5.getD b6.toNat 0))) (b6 + 1) ⟨H, (List.length_set.trans b7)⟩ (Nat.lt_succ_self _) (aF rfl) (Zc Zb Zg)
   · refine Wa rfl d6 ?_; refine T.exit ?_; refine Wk ?_; have H := Vt H e6 ▸ g5; refine Wk ?_; refine Ud ?_; exact Wj a5 ⟨H, b7⟩ (aF rfl) (Zc Zb Zg)
  · rintro a9 ⟨H, d7⟩; unfold Z5o at H; refine sR Y2 rfl ?_; refine Zd Za ?_; refine aN Za ?_; refine T.ret ?_; obtain rfl := ret1 H; exact Zu Za (Res.tmp rfl) (Zc Zb Zg) ⟨(some b5), ((n0.N + 1).toNat), ((n0.N + 1).toNat), ([]), rfl, rfl, d7, (Nat.le_refl _), (Ve _ _), Vh⟩
theorem Zow {s0 : List Int} {a4 : Option Addr} {a3 a6 : Nat} (w : World) (a2 : RS w [] iC 1 a4 a3 a6 s0) {r0 : List Int} (H : Z5y s0 = some r0) : Fnc Tryz.prog 98 #[.slice a4 a3 a6] w [] (fun v N => ∃ (a5 : Option Nat) (a7 a8 : Nat) (b5 : List Value), v = sV a5 a7 a8 ∧ N = [(eI a5 r0 b5 3)] ∧ r0.length = a7 ∧ a7 ≤ a8 ∧ b5.length = (a8 - a7) * 1 ∧ (a5 = none → a8 = 0)) := by
 unfold Z5y at H; refine Fnc.enter (vs := [.slice a4 a3 a6]) Tryz.func98 rfl rfl (Inv.refl w) ?_; refine sR Y1 rfl ?_; refine aN Za ?_; refine Zl ?_; refine Zl ?_; by_cases g1 : a4 = none
 ·
  have hx : s0 = [] := List.eq_nil_of_length_eq_zero (by rw [a2.len, a2.ro.nil g1]); have H : (some ([])) = some r0 := by
   simp only [hx] at H ⊢; first | exact H | exact (Yj H).2 | (split at H <;> first | exact H | (split at H <;> first | exact H | exact absurd (Yj H).1 (fun h => absurd h.2 (Int.not_lt.2 h.1))))
  refine rG Y2 rfl ?_; refine Zd Za ?_; refine Zdk Zf Xg ?_; refine Yo (t := 4) (b' := true) rfl (by rw [g1]; rfl) ?_; refine dN ?_; refine Xd rfl rfl ?_; refine sR Y1 rfl ?_; refine aN Za ?_; refine T.ret ?_; refine Yv ?_; obtain rfl := ret1 H; exact Zu Za (Res.tmp rfl) (Pick.none Zg) ⟨none, 0, 0, ([]), rfl, rfl, rfl, (Nat.le_refl _), (Ve 0 _), (fun _ => rfl)⟩
 · refine rG Y2 rfl ?_; refine Zd Za ?_; refine Zdk Zf Xg ?_; refine Yo (t := 4) (b' := false) rfl (Option.isNone_eq_false_iff.2 (Option.isSome_iff_ne_none.2 g1)) ?_; refine dN ?_; refine Xj rfl rfl ?_; refine T.skip ?_; refine Yk ?_; obtain ⟨g4, H⟩ := Yj H; refine sR Y4 rfl ?_; refine Zgg Zr Xg Yf ?_; intro b2; refine Zd Za ?_; refine Z4u (f := iC) (s := 1) (xs := ([] : List Int)) (ob := some b2) (j := ([])) (ys := s0) (fun _ => rfl) (fun _ => rfl) Zhk g4 Zf Zb rfl (Nat.le_refl _) (Ve 0 _) Vh (fun wc hwc => (a2.mono hwc)) ?_; intro b6 c6 j7 b7 b8 a9; refine aN Za ?_; refine T.ret ?_; obtain rfl := ret1 H; exact Zu Za (Res.tmp rfl) (Zc Zb Zg) ⟨b6, (0 + a3), c6, j7, rfl, rfl, (Zdu a2.len), b7, b8, a9⟩
theorem Zf2 {from0 to1 most2 arc3 : Int} {back4 : Bool} {c5 : List Int} {c6 : Csr} {e8 e6 e7 e9 d3 d5 b7 c7 c9 d6 a9 b9 b5 c4 b6 b8 : Nat} {d7 a3 a2 a4 a8 : Option Nat} {f6 a6 a7 a5 c8 : List Value} {d4 d1 : Option Addr} (w : World) (hin : Inv w (([(eC e8 #[sV d7 e6 e7] 25), (eI d7 c5 f6 3), (eC e9 #[iV c6.N, iV c6.S, iV c6.T, .slice d4 d3 d5, sV a3 b7 c7, .slice d1 c9 d6, sV a2 a9 b9, sV a4 b5 c4, sV a8 b6 b8] 29), (eI a3 c6.Head a6 3), (eI a2 c6.Cap a7 2), (eI a4 c6.Arc a5 3), (eA a8 boolC c6.Back c8 4)] : Heap).filterMap Prod.fst) w [(eC e8 #[sV d7 e6 e7] 25), (eI d7 c5 f6 3), (eC e9 #[iV c6.N, iV c6.S, iV c6.T, .slice d4 d3 d5, sV a3 b7 c7, .slice d1 c9 d6, sV a2 a9 b9, sV a4 b5 c4, sV a8 b6 b8] 29), (eI a3 c6.Head a6 3), (eI a2 c6.Cap a7 2), (eI a4 c6.Arc a5 3), (eA a8 boolC c6.Back c8 4)]) (d8 : c5.length = e6) (d9 : e6 ≤ e7) (n6 : f6.length = (e7 - e6) * 1) (e0 : (d7 = none → e7 = 0)) (m8 : RS w (([(eC e8 #[sV d7 e6 e7] 25), (eI d7 c5 f6 3), (eC e9 #[iV c6.N, iV c6.S, iV c6.T, .slice d4 d3 d5, sV a3 b7 c7, .slice d1 c9 d6, sV a2 a9 b9, sV a4 b5 c4, sV a8 b6 b8] 29), (eI a3 c6.Head a6 3), (eI a2 c6.Cap a7 2), (eI a4 c6.Arc a5 3), (eA a8 boolC c6.Back c8 4)] : Heap).filterMap Prod.fst) iC 1 d4 d3 d5 c6.First) (e2 : c6.Head.length = b7) (f4 : b7 ≤ c7) (l5 : a6.length = (c7 - b7) * 1) (f1 : (a3 = none → c7 = 0)) (m9 : RS w (([(eC e8 #[sV d7 e6 e7] 25), (eI d7 c5 f6 3), (eC e9 #[iV c6.N, iV c6.S, iV c6.T, .slice d4 d3 d5, sV a3 b7 c7, .slice d1 c9 d6, sV a2 a9 b9, sV a4 b5 c4, sV a8 b6 b8] 29), (eI a3 c6.Head a6 3), (eI a2 c6.Cap a7 2), (eI a4 c6.Arc a5 3), (eA a8 boolC c6.Back c8 4)] : Heap).filterMap Prod.fst) iC 1 d1 c9 d6 c6.Rev) (e4 : c6.Cap.length = a9) (f7 : a9 ≤ b9) (l7 : a7.length = (b9 - a9) * 1) (f8 : (a2 = none → b9 = 0)) (e3 : c6.Arc.length = b5) (f9 : b5 ≤ c4) (l6 : a5.length = (c4 - b5) * 1) (f2 : (a4 = none → c4 = 0)) (e5 : c6.Back.length = b6) (f5 : b6 ≤ b8) (l4 : c8.length = (b8 - b6) * 1) (f3 : (a8 = none → b8 = 0)) {r0 : Int} {o0 : List Int} {o1 : Csr} (H : Z4q from0 to1 most2 arc3 back4 c5 c6 = some (r0, o0, o1)) : Fnc Tryz.prog 110 #[iV from0, iV to1, iV most2, iV arc3, .bool back4, pV e8, pV e9] w (([(eC e8 #[sV d7 e6 e7] 25), (eI d7 c5 f6 3), (eC e9 #[iV c6.N, iV c6.S, iV c6.T, .slice d4 d3 d5, sV a3 b7 c7, .slice d1 c9 d6, sV a2 a9 b9, sV a4 b5 c4, sV a8 b6 b8] 29), (eI a3 c6.Head a6 3), (eI a2 c6.Cap a7 2), (eI a4 c6.Arc a5 3), (eA a8 boolC c6.Back c8 4)] : Heap).filterMap Prod.fst) (fun v N => v = iV r0 ∧ N = [(eC e8 #[sV d7 e6 e7] 25), (eI d7 o0 f6 3), (eC e9 #[iV c6.N, iV c6.S, iV c6.T, .slice d4 d3 d5, sV a3 b7 c7, .slice d1 c9 d6, sV a2 a9 b9, sV a4 b5 c4, sV a8 b6 b8] 29), (eI a3 o1.Head a6 3), (eI a2 o1.Cap a7 2), (eI a4 o1.Arc a5 3), (eA a8 boolC o1.Back c8 4)] ∧ o0.length = e6 ∧ o1.Head.length = b7 ∧ o1.Cap.length = a9 ∧ o1.Arc.length = b5 ∧ o1.Back.length = b6) := by
 unfold Z4q at H; refine Fnc.enter (vs := [iV from0, iV to1, iV most2, iV arc3, .bool back4, pV e8, pV e9]) Tryz.func110 rfl rfl hin ?_; refine sR Y1 rfl ?_; refine aN Za ?_; obtain ⟨g8, H⟩ := Yj H; refine sR Y5 rfl ?_; refine Zn Za Wr Zh rfl ?_; refine Zd Za ?_; refine Vz e0 d9 d8 g8 Zf Xg Yf ?_; refine Z00 e0 d9 d8 g8 Za Zo Yy ?_; refine aN Za ?_; obtain ⟨g9, o6, n7, H⟩ := gd3 H; refine sR Y7 rfl ?_; refine Zn Za Wr Zh rfl ?_; refine Zd Za ?_; refine Vz e0 d9 d8 g9 Zf Xg Yf ?_; refine Z00 e0 d9 d8 g9 Za Zo Yy ?_; refine Xf o6 Zf ?_; refine Vz e0 d9 d8 n7 Zf Xg Yf ?_; refine Z43 e0 d9 d8 n7 Za Zp Yf ?_; refine dN ?_; refine Zq (aT [1, 2, 3, 4, 6, 13] rfl) ?_; refine Zl ?_; obtain ⟨n8, n9, o2, o4, H⟩ := gd4 H; apply Gw [rV [] _, rV [0] _, rV [] _, rV [] _, rV [3] _, rV [] _, rV [] _, rV [6] _, rV [] _, rV [] _, rV [9] _, rV [] _, rV [] _, rV [] _, rV [] _, rV [] _, rV [1, 2] _, ⟨[1, 2, 12, 16], true, [], Jc⟩, rV [4, 5] _, ⟨[4, 5, 13, 18], true, [], Jc⟩, rV [7, 8] _, ⟨[7, 8, 14, 20], true, [], Jc⟩] [24, 25, 26, 27, 28, 29, 30, 31, 32, 33, 34, 35, 36, 37, 38, 39, 40, 41, 42] 22 (HRk [[(eI a3 c6.Head a6 3), (eI a2 c6.Cap a7 2), (eI a4 c6.Arc a5 3)], [(eI a3 (c6.Head.set (c5.getD from0.toNat 0).toNat to1) a6 3), (eI a2 c6.Cap a7 2), (eI a4 c6.Arc a5 3)], [(eI a3 (c6.Head.set (c5.getD from0.toNat 0).toNat to1) a6 3), (eI a2 (c6.Cap.set (c5.getD from0.toNat 0).toNat most2) a7 2), (eI a4 c6.Arc a5 3)], [(eI a3 (c6.Head.set (c5.getD from0.toNat 0).toNat to1) a6 3), (eI a2 (c6.Cap.set (c5.getD from0.toNat 0).toNat most2) a7 2), (eI a4 (c6.Arc.set (c5.getD from0.toNat 0).toNat arc3) a5 3)]]) [[], [], [], []] [(eI a3 c6.Head a6 3), (eI a2 c6.Cap a7 2), (eI a4 c6.Arc a5 3)] [(eI d7 (c5.set from0.toNat ((c5.getD from0.toNat 0) + 1)) f6 3), (eC e8 #[sV d7 e6 e7] 25), (eC e9 #[iV c6.N, iV c6.S, iV c6.T, .slice d4 d3 d5, sV a3 b7 c7, .slice d1 c9 d6, sV a2 a9 b9, sV a4 b5 c4, sV a8 b6 b8] 29), (eA a8 boolC c6.Back c8 4)]
 · exact Yx
 · exact rfl
 · kernel_rfl
 · kernel_rfl
 · kernel_rfl
 · exact rfl
 · exact rfl
 · exact rfl
 · exact rfl
 · exact Wo (by repeat constructor)
 ·
  refine ⟨?_, ?_, ?_, ?_, ?_, ?_, ?_, ?_, ?_, ?_, ?_, ?_, ?_, ?_, ?_, ?_, ?_, ?_, ?_, ?_, ?_, ?_, trivial⟩
  · rintro vs es Es Hx -; refine Zz (D := []) rfl ?_; refine Zi Za Nc ?_; refine Zk ?_; exact Yd rfl ⟨rfl, rfl⟩ (Yb _) rfl
  · rintro vs es Es Hx ⟨⟨i2, m4⟩, -⟩; refine Zz (D := [(24, vs 0)]) rfl ?_; rw [i2]; refine Zn Za Wr Xb rfl ?_; refine Zk ?_; exact Yd rfl ⟨rfl, rfl⟩ (Yb _) (by show [(24, vs 0)] = _; rw [i2])
  · rintro vs es Es Hx -; refine Zz (D := []) rfl ?_; refine Zd Za ?_; refine Zk ?_; exact Yd rfl ⟨rfl, rfl⟩ (Yb _) rfl
  · rintro vs es Es Hx -; refine Zz (D := []) rfl ?_; refine Zi Za Z5k ?_; refine Zk ?_; exact Yd rfl ⟨rfl, rfl⟩ (Yb _) rfl
  · rintro vs es Es Hx ⟨⟨i4, m5⟩, -⟩; refine Zz (D := [(27, vs 3)]) rfl ?_; rw [i4]; refine Zn Za Zao Xb rfl ?_; refine Zk ?_; exact Yd rfl ⟨rfl, rfl⟩ (Yb _) (by show [(27, vs 3)] = _; rw [i4])
  · rintro vs es Es Hx -; refine Zz (D := []) rfl ?_; refine Zd Za ?_; refine Zk ?_; exact Yd rfl ⟨rfl, rfl⟩ (Yb _) rfl
  · rintro vs es Es Hx -; refine Zz (D := []) rfl ?_; refine Zi Za Zev ?_; refine Zk ?_; exact Yd rfl ⟨rfl, rfl⟩ (Yb _) rfl
  · rintro vs es Es Hx ⟨⟨j0, m6⟩, -⟩; refine Zz (D := [(30, vs 6)]) rfl ?_; rw [j0]; refine Zn Za Wr Xb rfl ?_; refine Zk ?_; exact Yd rfl ⟨rfl, rfl⟩ (Yb _) (by show [(30, vs 6)] = _; rw [j0])
  · rintro vs es Es Hx -; refine Zz (D := []) rfl ?_; refine Zd Za ?_; refine Zk ?_; exact Yd rfl ⟨rfl, rfl⟩ (Yb _) rfl
  · rintro vs es Es Hx -; refine Zz (D := []) rfl ?_; refine Zi Za Zf0 ?_; refine Zk ?_; exact Yd rfl ⟨rfl, rfl⟩ (Yb _) rfl
  · rintro vs es Es Hx ⟨⟨j1, m7⟩, -⟩; refine Zz (D := [(33, vs 9)]) rfl ?_; rw [j1]; refine Zn Za Zlf Xb rfl ?_; refine Zk ?_; exact Yd rfl ⟨rfl, rfl⟩ (Yb _) (by show [(33, vs 9)] = _; rw [j1])
  · rintro vs es Es Hx -; refine Zz (D := []) rfl ?_; refine Zd Za ?_; refine Zk ?_; exact Yd rfl ⟨rfl, rfl⟩ (Yb _) rfl
  · rintro vs es Es Hx -; refine Zz (D := []) rfl ?_; refine Zd Za ?_; refine Zk ?_; exact Yd rfl ⟨rfl, rfl⟩ (Yb _) rfl
  · rintro vs es Es Hx -; refine Zz (D := []) rfl ?_; refine Zd Za ?_; refine Zk ?_; exact Yd rfl ⟨rfl, rfl⟩ (Yb _) rfl
  · rintro vs es Es Hx -; refine Zz (D := []) rfl ?_; refine Zd Za ?_; refine Zk ?_; exact Yd rfl ⟨rfl, rfl⟩ (Yb _) rfl
  · rintro vs es Es Hx -; refine Zz (D := []) rfl ?_; refine Zd Za ?_; refine Zk ?_; exact Yd rfl ⟨rfl, rfl⟩ (Yb _) rfl
  · rintro vs es Es Hx ⟨⟨g6, l8⟩, ⟨g7, l9⟩, -⟩; refine Zz (D := [(25, vs 1), (26, vs 2)]) rfl ?_; rw [g6, g7]; refine Vz f1 f4 e2 n8 Zf Xg Yf ?_; refine Zk ?_; exact Yd rfl ⟨rfl, rfl⟩ (Yb _) (by show [(25, vs 1), (26, vs 2)] = _; rw [g6, g7])
  · rintro vs es Es Hx hb ⟨⟨g6, l8⟩, ⟨g7, l9⟩, ⟨g0, h4⟩, ⟨g1, h5⟩, -⟩ hHR; obtain rfl : hb = [(eI a3 c6.Head a6 3), (eI a2 c6.Cap a7 2), (eI a4 c6.Arc a5 3)] := hHR; refine Zz (D := [(25, vs 1), (26, vs 2), (36, vs 12), (40, vs 16)]) rfl ?_; rw [g6, g7, g0, g1]; refine Z43 f1 f4 e2 n8 Za Zb Yf ?_; refine Zk ?_; exact Jf (hb' := [(eI a3 (c6.Head.set (c5.getD from0.toNat 0).toNat to1) a6 3), (eI a2 c6.Cap a7 2), (eI a4 c6.Arc a5 3)]) rfl rfl rfl (Wo (by repeat constructor)) (by show [(25, vs 1), (26, vs 2), (36, vs 12), (40, vs 16)] = _; rw [g6, g7, g0, g1])
  · rintro vs es Es Hx ⟨⟨h0, m0⟩, ⟨h1, m1⟩, -⟩; refine Zz (D := [(28, vs 4), (29, vs 5)]) rfl ?_; rw [h0, h1]; refine Vz f8 f7 e4 n9 Zf Z4n Uk ?_; refine Zk ?_; exact Yd rfl ⟨rfl, rfl⟩ (Yb _) (by show [(28, vs 4), (29, vs 5)] = _; rw [h0, h1])
  · rintro vs es Es Hx hb ⟨⟨h0, m0⟩, ⟨h1, m1⟩, ⟨g2, h6⟩, ⟨g3, h7⟩, -⟩ hHR; obtain rfl : hb = [(eI a3 (c6.Head.set (c5.getD from0.toNat 0).toNat to1) a6 3), (eI a2 c6.Cap a7 2), (eI a4 c6.Arc a5 3)] := hHR; refine Zz (D := [(28, vs 4), (29, vs 5), (37, vs 13), (41, vs 18)]) rfl ?_; rw [h0, h1, g2, g3]; refine Z43 f8 f7 e4 n9 Za Zp Uk ?_; refine Zk ?_; exact Jf (hb' := [(eI a3 (c6.Head.set (c5.getD from0.toNat 0).toNat to1) a6 3), (eI a2 (c6.Cap.set (c5.getD from0.toNat 0).toNat most2) a7 2), (eI a4 c6.Arc a5 3)]) rfl rfl rfl (Wo (by repeat constructor)) (by show [(28, vs 4), (29, vs 5), (37, vs 13), (41, vs 18)] = _; rw [h0, h1, g2, g3])
  · rintro vs es Es Hx ⟨⟨h2, m2⟩, ⟨h3, m3⟩, -⟩; refine Zz (D := [(31, vs 7), (32, vs 8)]) rfl ?_; rw [h2, h3]; refine Vz f2 f9 e3 o2 Zf Xg Yf ?_; refine Zk ?_; exact Yd rfl ⟨rfl, rfl⟩ (Yb _) (by show [(31, vs 7), (32, vs 8)] = _; rw [h2, h3])
  · rintro vs es Es Hx hb ⟨⟨h2, m2⟩, ⟨h3, m3⟩, ⟨g4, h8⟩, ⟨g5, h9⟩, -⟩ hHR; obtain rfl : hb = [(eI a3 (c6.Head.set (c5.getD from0.toNat 0).toNat to1) a6 3), (eI a2 (c6.Cap.set (c5.getD from0.toNat 0).toNat most2) a7 2), (eI a4 c6.Arc a5 3)] := hHR; refine Zz (D := [(31, vs 7), (32, vs 8), (38, vs 14), (42, vs 20)]) rfl ?_; rw [h2, h3, g4, g5]; refine Z43 f2 f9 e3 o2 Za Zy Yf ?_; refine Zk ?_; exact Jf (hb' := [(eI a3 (c6.Head.set (c5.getD from0.toNat 0).toNat to1) a6 3), (eI a2 (c6.Cap.set (c5.getD from0.toNat 0).toNat most2) a7 2), (eI a4 (c6.Arc.set (c5.getD from0.toNat 0).toNat arc3) a5 3)]) rfl rfl rfl (Wo (by repeat constructor)) (by show [(31, vs 7), (32, vs 8), (38, vs 14), (42, vs 20)] = _; rw [h2, h3, g4, g5])
 · rintro vs es hb ⟨⟨i2, m4⟩, ⟨g6, l8⟩, ⟨g7, l9⟩, ⟨i4, m5⟩, ⟨h0, m0⟩, ⟨h1, m1⟩, ⟨j0, m6⟩, ⟨h2, m2⟩, ⟨h3, m3⟩, ⟨j1, m7⟩, ⟨j2, j3⟩, ⟨j4, j5⟩, ⟨g0, h4⟩, ⟨g2, h6⟩, ⟨g4, h8⟩, ⟨j6, j7⟩, ⟨g1, h5⟩, j8, ⟨g3, h7⟩, j9, ⟨g5, h9⟩, l3, -⟩ hHR; obtain rfl : hb = [(eI a3 (c6.Head.set (c5.getD from0.toNat 0).toNat to1) a6 3), (eI a2 (c6.Cap.set (c5.getD from0.toNat 0).toNat most2) a7 2), (eI a4 (c6.Arc.set (c5.getD from0.toNat 0).toNat arc3) a5 3)] := hHR; refine Zz (D := [(24, vs 0), (25, vs 1), (26, vs 2), (27, vs 3), (28, vs 4), (29, vs 5), (30, vs 6), (31, vs 7), (32, vs 8), (33, vs 9), (34, vs 10), (35, vs 11), (36, vs 12), (37, vs 13), (38, vs 14), (39, vs 15), (40, vs 16), (41, vs 18), (42, vs 20)]) rfl ?_; refine Kd (H := _ ++ (_ ++ (es 0 ++ (es 1 ++ (es 2 ++ (es 3 ++ (es 4 ++ (es 5 ++ (es 6 ++ (es 7 ++ (es 8 ++ (es 9 ++ (es 10 ++ (es 11 ++ (es 12 ++ (es 13 ++ (es 14 ++ (es 15 ++ (es 16 ++ (es 17 ++ (es 18 ++ (es 19 ++ (es 20 ++ (es 21 ++ ([]))))))))))))))))))))))))) rfl ?_; rw [m4, l8, l9, m5, m0, m1, m6, m2, m3, m7, j3, j5, h4, h6, h8, j7, h5, j8, h7, j9, h9, l3]; rw [i2, g6, g7, i4, h0, h1, j0, h2, h3, j1, j2, j4, g0, g2, g4, j6, g1, g3, g5]; clear g5 g3 g1 j6 g4 g2 g0 j4 j2 j1 h3 h2 j0 h1 h0 i4 g7 g6 i2 m4 l8 l9 m5 m0 m1 m6 m2 m3 m7 j3 j5 h4 h6 h8 j7 h5 j8 h7 j9 h9 l3; refine Vz f3 f5 e5 o4 Zf Zcd Wy ?_; refine TO.stBV f3 f5 e5 o4 Za Ke Wy ?_; refine dN ?_; refine Zq (aT [13] rfl) ?_; refine sR Y2 rfl ?_; refine Zd Za ?_; refine aN Za ?_; refine T.ret ?_; obtain ⟨rfl, rfl, rfl⟩ := ret3 H; exact Zu Za (Res.tmp rfl) (Zc Uv (Zc Wp (Zc Wp (Zc Zp (Zc Zp (Zc Zp (Zc Zb Zg))))))) ⟨rfl, rfl, (List.length_set.trans d8), (List.length_set.trans e2), (List.length_set.trans e4), (List.length_set.trans e3), (List.length_set.trans e5)⟩
theorem Zp5 {n0 : Net} {a7 : Option Addr} {a6 a8 : Nat} (w : World) (b9 : RS w [] Wh 3 a7 a6 a8 n0.Arcs) {r0 : Csr} {r1 : Int} (H : Z3x n0 = some (r0, r1)) : Fnc Tryz.prog 50 #[.agg #[iV n0.N, iV n0.S, iV n0.T, .slice a7 a6 a8]] w [] (fun v N => ∃ (j7 : Option Nat) (n8 n9 : Nat) (q9 : List Value) (j8 : Option Nat) (o0 o1 : Nat) (r2 : List Value) (j9 : Option Nat) (o2 o4 : Nat) (r3 : List Value) (g3 : Option Nat) (i2 i4 : Nat) (l8 : List Value) (g4 : Option Nat) (j0 j1 : Nat) (l9 : List Value) (g5 : Option Nat) (j2 j3 : Nat) (m0 : List Value), v = .tuple #[.agg #[iV r0.N, iV r0.S, iV r0.T, sV j7 n8 n9, sV j8 o0 o1, sV j9 o2 o4, sV g3 i2 i4, sV g4 j0 j1, sV g5 j2 j3], iV r1] ∧ N = [(eI j7 r0.First q9 3), (eI j8 r0.Head r2 3), (eI j9 r0.Rev r3 3), (eI g3 r0.Cap l8 2), (eI g4 r0.Arc l9 3), (eA g5 boolC r0.Back m0 4)] ∧ r0.First.length = n8 ∧ n8 ≤ n9 ∧ q9.length = (n9 - n8) * 1 ∧ (j7 = none → n9 = 0) ∧ r0.Head.length = o0 ∧ o0 ≤ o1 ∧ r2.length = (o1 - o0) * 1 ∧ (j8 = none → o1 = 0) ∧ r0.Rev.length = o2 ∧ o2 ≤ o4 ∧ r3.length = (o4 - o2) * 1 ∧ (j9 = none → o4 = 0) ∧ r0.Cap.length = i2 ∧ i2 ≤ i4 ∧ l8.length = (i4 - i2) * 1 ∧ (g3 = none → i4 = 0) ∧ r0.Arc.length = j0 ∧ j0 ≤ j1 ∧ l9.length = (j1 - j0) * 1 ∧ (g4 = none → j1 = 0) ∧ r0.Back.length = j2 ∧ j2 ≤ j3 ∧ m0.length = (j3 - j2) * 1 ∧ (g5 = none → j3 = 0)) := by
 unfold Z3x at H; refine Fnc.enter (vs := [.agg #[iV n0.N, iV n0.S, iV n0.T, .slice a7 a6 a8]]) Tryz.func50 rfl rfl (Inv.refl w) ?_; refine sR Y3 rfl ?_; refine We Za ?_; intro b1; refine Xw Zr Zbh ?_; intro b3; refine aN Za ?_; refine Zl ?_; refine Zl ?_; obtain ⟨r5, e6, H⟩ := Zj H; refine rG Y3 rfl ?_; refine Xy Za Vd Yy rfl ?_; refine Ya Zjg Za (fun wc hwc => Zmj (n0 := n0) wc (b9.mono hwc) e6) ?_; rintro _ _ ⟨rfl, rfl⟩; refine aN Za ?_; refine sR Y2 rfl ?_; refine Zd Za ?_; refine Yc Zw ?_; refine dN ?_; rcases Zt H with ⟨g7, H⟩ | ⟨g7, H⟩
 · refine Wc rfl g7 ?_; refine sR Y4 rfl ?_; refine Yr (t := 29) [iV 0, iV 0, iV 0, .slice none 0 0, .slice none 0 0, .slice none 0 0, .slice none 0 0, .slice none 0 0, .slice none 0 0] [0, 1, 2, 3, 4, 5, 6, 7, 8] Za (by simp only [Ym, setCells, Value.cells, List.toList_toArray, List.getD_cons_zero, List.getD_cons_succ, List.set_cons_zero, List.set_cons_succ]; rfl) (by kernel_rfl) ?_; refine Zd Za ?_; refine Xl Za Zb Z60 Zr ?_; refine aN Za ?_; refine Zq (aT [2, 3] rfl) ?_; refine T.ret ?_; refine Yv ?_; obtain ⟨rfl, rfl⟩ := ret2 H; exact Ky Za (Vr rfl Z2f Zh rfl) (Res.tmp rfl) (Pick.none (Pick.none (Pick.none (Pick.none (Pick.none (Pick.none Zg)))))) ⟨none, 0, 0, ([]), none, 0, 0, ([]), none, 0, 0, ([]), none, 0, 0, ([]), none, 0, 0, ([]), none, 0, 0, ([]), rfl, rfl, rfl, (Nat.le_refl _), (Ve 0 _), (fun _ => rfl), rfl, (Nat.le_refl _), (Ve 0 _), (fun _ => rfl), rfl, (Nat.le_refl _), (Ve 0 _), (fun _ => rfl), rfl, (Nat.le_refl _), (Ve 0 _), (fun _ => rfl), rfl, (Nat.le_refl _), (Ve 0 _), (fun _ => rfl), rfl, (Nat.le_refl _), (Ve 0 _), (fun _ => rfl)⟩
 ·
  refine Wa rfl g7 ?_; refine T.skip ?_; refine Yk ?_; refine Zl ?_; obtain ⟨r8, e9, H⟩ := Zj H; apply Gw [rV [] _, rV [0] _, rV [] _, rV [2] _, rV [] _, rV [4] _, rV [] _, ⟨[6], false, [], fun _ v e => ∃ (a2 : Option Nat) (a4 a5 : Nat) (f5 : List Value), v = sV a2 a4 a5 ∧ e = [(eI a2 r8 f5 3)] ∧ r8.length = a4 ∧ a4 ≤ a5 ∧ f5.length = (a5 - a4) * 1 ∧ (a2 = none → a5 = 0)⟩, ⟨[1, 3, 5, 7], false, [], fun vl v e => v = (Value.agg #[iV n0.N, iV n0.S, iV n0.T, (vl.getD 3 undef), .slice none 0 0, .slice none 0 0, .slice none 0 0, .slice none 0 0, .slice none 0 0]) ∧ e = []⟩, ⟨[], false, [], fun _ v e => ∃ (a9 : Nat), v = pV a9 ∧ e = [(eC a9 #[iV 0, iV 0, iV 0, .slice none 0 0, .slice none 0 0, .slice none 0 0, .slice none 0 0, .slice none 0 0, .slice none 0 0] 29)]⟩] [19, 20, 21, 22, 23, 24, 25, 26, 27, 5] 10 (HRk [[]]) [[]] [] [(eC b3 #[iV 0, iV 0, iV 0, .slice none 0 0, .slice none 0 0, .slice none 0 0, .slice none 0 0, .slice none 0 0, .slice none 0 0] 29), (eC b1 #[iV n0.N, iV n0.S, iV n0.T, .slice a7 a6 a8] 24)]
  · exact Yx
  · exact rfl
  · kernel_rfl
  · kernel_rfl
  · kernel_rfl
  · exact rfl
  · exact rfl
  · exact rfl
  · exact rfl
  · exact Wo (by repeat constructor)
  ·
   refine ⟨?_, ?_, ?_, ?_, ?_, ?_, ?_, ?_, ?_, ?_, trivial⟩
   · rintro vs es Es Hx -; refine Zz (D := []) rfl ?_; refine Zi Za Ui ?_; refine Zk ?_; exact Yd rfl ⟨rfl, rfl⟩ (Yb _) rfl
   · rintro vs es Es Hx ⟨⟨d7, g6⟩, -⟩; refine Zz (D := [(19, vs 0)]) rfl ?_; rw [d7]; refine Zn Za Zo Yy rfl ?_; refine Zk ?_; exact Yd rfl ⟨rfl, rfl⟩ (Yb _) (by show [(19, vs 0)] = _; rw [d7])
   · rintro vs es Es Hx -; refine Zz (D := []) rfl ?_; refine Zi Za Uz ?_; refine Zk ?_; exact Yd rfl ⟨rfl, rfl⟩ (Yb _) rfl
   · rintro vs es Es Hx ⟨⟨c8, g2⟩, -⟩; refine Zz (D := [(21, vs 2)]) rfl ?_; rw [c8]; refine Zn Za Zo Yy rfl ?_; refine Zk ?_; exact Yd rfl ⟨rfl, rfl⟩ (Yb _) (by show [(21, vs 2)] = _; rw [c8])
   · rintro vs es Es Hx -; refine Zz (D := []) rfl ?_; refine Zi Za Gy ?_; refine Zk ?_; exact Yd rfl ⟨rfl, rfl⟩ (Yb _) rfl
   · rintro vs es Es Hx ⟨⟨e8, h8⟩, -⟩; refine Zz (D := [(23, vs 4)]) rfl ?_; rw [e8]; refine Zn Za Zo Yy rfl ?_; refine Zk ?_; exact Yd rfl ⟨rfl, rfl⟩ (Yb _) (by show [(23, vs 4)] = _; rw [e8])
   · rintro vs es Es Hx -; refine Zz (D := []) rfl ?_; refine Xy Za Vd Yy rfl ?_; refine Zk ?_; exact Yd rfl ⟨rfl, rfl⟩ (Yb _) rfl
   · rintro vs es Es Hx ⟨⟨d8, g8⟩, -⟩; refine Zz (D := [(25, vs 6)]) rfl ?_; rw [d8]; refine Ya Zii Za (fun wc hwc => Zoj (n0 := n0) wc (b9.mono hwc) e9) ?_; rintro _ _ ⟨a2, a4, a5, f5, rfl, rfl, d3, d4, j4, d5⟩; refine Zk ?_; exact Yd rfl ⟨a2, a4, a5, f5, rfl, rfl, d3, d4, j4, d5⟩ (Wo (by repeat constructor)) (by show [(25, vs 6)] = _; rw [d8])
   · rintro vs es Es Hx ⟨⟨c9, d6⟩, ⟨d9, e2⟩, ⟨f1, f2⟩, ⟨a2, a4, a5, f5, e0, f3, d3, d4, j4, d5⟩, -⟩; refine Zz (D := [(20, vs 1), (22, vs 3), (24, vs 5), (26, vs 7)]) rfl ?_; rw [c9, d9, f1, e0]; refine Kd (H := _ ++ ((es 1 ++ (es 3 ++ (es 5 ++ (es 7 ++ ([]))))) ++ _)) rfl ?_; rw [d6, e2, f2, f3]; refine Yr (t := 29) [iV 0, iV 0, iV 0, .slice none 0 0, .slice none 0 0, .slice none 0 0, .slice none 0 0, .slice none 0 0, .slice none 0 0] [0, 1, 2, 3, 4, 5, 6, 7, 8] Za (by simp only [Ym, setCells, Value.cells, List.toList_toArray, List.getD_cons_zero, List.getD_cons_succ, List.set_cons_zero, List.set_cons_succ]; rfl) (by kernel_rfl) ?_; refine Zk ?_; exact Yd rfl ⟨by show _ = (Value.agg #[iV n0.N, iV n0.S, iV n0.T, vs 7, .slice none 0 0, .slice none 0 0, .slice none 0 0, .slice none 0 0, .slice none 0 0]); rw [e0] <;> rfl, rfl⟩ (by show Pick (_ ++ (_ ++ ((es 1 ++ (es 3 ++ (es 5 ++ (es 7 ++ ([]))))) ++ _))) _; rw [d6, e2, f2, f3]; exact Wo (by repeat constructor)) (by show [(20, vs 1), (22, vs 3), (24, vs 5), (26, vs 7)] = _; rw [c9, d9, f1, e0])
   · rintro vs es Es Hx -; refine Zz (D := []) rfl ?_; refine Xw Zr Zbh ?_; intro a9; refine Zk ?_; exact Yd rfl ⟨a9, rfl, rfl⟩ (Wo (by repeat constructor)) rfl
  ·
   rintro vs es hb ⟨⟨d7, g6⟩, ⟨c9, d6⟩, ⟨c8, g2⟩, ⟨d9, e2⟩, ⟨e8, h8⟩, ⟨f1, f2⟩, ⟨d8, g8⟩, ⟨a2, a4, a5, f5, e0, f3, d3, d4, j4, d5⟩, ⟨r4, h9⟩, ⟨a9, m1, j5⟩, -⟩ hHR; obtain rfl : hb = [] := hHR; have f4 : vs 8 = .agg #[iV n0.N, iV n0.S, iV n0.T, sV a2 a4 a5, .slice none 0 0, .slice none 0 0, .slice none 0 0, .slice none 0 0, .slice none 0 0] := by refine Eq.trans r4 ?_; show (Value.agg #[iV n0.N, iV n0.S, iV n0.T, vs 7, .slice none 0 0, .slice none 0 0, .slice none 0 0, .slice none 0 0, .slice none 0 0]) = _; rw [e0] <;> rfl
   refine Zz (D := [(19, vs 0), (20, vs 1), (21, vs 2), (22, vs 3), (23, vs 4), (24, vs 5), (25, vs 6), (26, vs 7), (27, vs 8), (5, vs 9)]) rfl ?_; refine Kd (H := _ ++ (_ ++ (es 0 ++ (es 1 ++ (es 2 ++ (es 3 ++ (es 4 ++ (es 5 ++ (es 6 ++ (es 7 ++ (es 8 ++ (es 9 ++ ([]))))))))))))) rfl ?_; rw [g6, d6, g2, e2, h8, f2, g8, f3, h9, j5]; rw [d7, c9, c8, d9, e8, f1, d8, e0, f4, m1]; clear m1 f4 e0 d8 f1 e8 d9 c8 c9 d7 r4 g6 d6 g2 e2 h8 f2 g8 f3 h9 j5; refine Xl Za Yl Z60 Zr ?_; refine dN ?_; refine Zq (aT [1, 2, 5] rfl) ?_; obtain ⟨r6, H⟩ := Yj H; refine sR Y7 rfl ?_; refine Zi Za Nr ?_; refine Zn Za Wr Zh rfl ?_; refine Zi Za Ui ?_; refine Zn Za Zo Xb rfl ?_; refine Vz d5 d4 d3 r6 Zf Xg Yf ?_; refine Z00 d5 d4 d3 r6 Za Zo Vv ?_; refine aN Za ?_; refine Zl ?_; obtain ⟨s9, t0, t1, t2, H⟩ := gd4 H; obtain ⟨t3, H⟩ := Yj H; apply Gw [rV [] _, ⟨[0], false, [], fun _ v e => ∃ (e3 : Nat), v = nV e3 ((r8.getD n0.N.toNat 0).toNat) ((r8.getD n0.N.toNat 0).toNat) ∧ e = [(eI (some e3) (List.replicate ((r8.getD n0.N.toNat 0).toNat) (0 : Int)) ([]) 3)]⟩, rV [] _, ⟨[2], false, [], fun _ v e => ∃ (d1 : Nat), v = nV d1 ((r8.getD n0.N.toNat 0).toNat) ((r8.getD n0.N.toNat 0).toNat) ∧ e = [(eI (some d1) (List.replicate ((r8.getD n0.N.toNat 0).toNat) (0 : Int)) ([]) 3)]⟩, rV [] _, ⟨[4], false, [], fun _ v e => ∃ (e4 : Nat), v = nV e4 ((r8.getD n0.N.toNat 0).toNat) ((r8.getD n0.N.toNat 0).toNat) ∧ e = [(eI (some e4) (List.replicate ((r8.getD n0.N.toNat 0).toNat) (0 : Int)) ([]) 2)]⟩, rV [] _, ⟨[6], false, [], fun _ v e => ∃ (e5 : Nat), v = nV e5 ((r8.getD n0.N.toNat 0).toNat) ((r8.getD n0.N.toNat 0).toNat) ∧ e = [(eI (some e5) (List.replicate ((r8.getD n0.N.toNat 0).toNat) (0 : Int)) ([]) 3)]⟩, rV [] _, ⟨[8], false, [], fun _ v e => ∃ (f6 : Nat), v = nV f6 ((r8.getD n0.N.toNat 0).toNat) ((r8.getD n0.N.toNat 0).toNat) ∧ e = [(eA (some f6) boolC (List.replicate ((r8.getD n0.N.toNat 0).toNat) (false : Bool)) ([]) 4)]⟩, rV [] _, ⟨[1, 10], true, [], Jc⟩, rV [] _, ⟨[3, 12], true, [], Jc⟩, rV [] _, ⟨[5, 14], true, [], Jc⟩, rV [] _, ⟨[7, 16], true, [], Jc⟩] [34, 35, 36, 37, 38, 39, 40, 41, 42, 43, 44, 45, 46, 47] 18 (HRv [fun vl => [(eC a9 #[iV n0.N, iV n0.S, iV n0.T, sV a2 a4 a5, .slice none 0 0, .slice none 0 0, .slice none 0 0, .slice none 0 0, .slice none 0 0] 29)], fun vl => [(eC a9 #[iV n0.N, iV n0.S, iV n0.T, sV a2 a4 a5, (vl.getD 0 undef), .slice none 0 0, .slice none 0 0, .slice none 0 0, .slice none 0 0] 29)], fun vl => [(eC a9 #[iV n0.N, iV n0.S, iV n0.T, sV a2 a4 a5, (vl.getD 0 undef), (vl.getD 1 undef), .slice none 0 0, .slice none 0 0, .slice none 0 0] 29)], fun vl => [(eC a9 #[iV n0.N, iV n0.S, iV n0.T, sV a2 a4 a5, (vl.getD 0 undef), (vl.getD 1 undef), (vl.getD 2 undef), .slice none 0 0, .slice none 0 0] 29)], fun vl => [(eC a9 #[iV n0.N, iV n0.S, iV n0.T, sV a2 a4 a5, (vl.getD 0 undef), (vl.getD 1 undef), (vl.getD 2 undef), (vl.getD 3 undef), .slice none 0 0] 29)]]) [[], [1], [1, 3], [1, 3, 5], [1, 3, 5, 7]] [(eC a9 #[iV n0.N, iV n0.S, iV n0.T, sV a2 a4 a5, .slice none 0 0, .slice none 0 0, .slice none 0 0, .slice none 0 0, .slice none 0 0] 29)] [(eC b3 #[iV 0, iV 0, iV 0, .slice none 0 0, .slice none 0 0, .slice none 0 0, .slice none 0 0, .slice none 0 0, .slice none 0 0] 29), (eC b1 #[iV n0.N, iV n0.S, iV n0.T, .slice a7 a6 a8] 24), (eI a2 r8 f5 3)]
   · exact Yx
   · exact rfl
   · kernel_rfl
   · kernel_rfl
   · kernel_rfl
   · exact rfl
   · exact rfl
   · exact rfl
   · exact rfl
   · exact Wo (by repeat constructor)
   ·
    refine ⟨?_, ?_, ?_, ?_, ?_, ?_, ?_, ?_, ?_, ?_, ?_, ?_, ?_, ?_, ?_, ?_, ?_, ?_, trivial⟩
    · rintro vs es Es Hx -; refine Zz (D := []) rfl ?_; refine Zd Za ?_; refine Zk ?_; exact Yd rfl ⟨rfl, rfl⟩ (Yb _) rfl
    · rintro vs es Es Hx ⟨⟨d7, g6⟩, -⟩; refine Zz (D := [(34, vs 0)]) rfl ?_; rw [d7]; refine Z18 s9 Zf Xg Yf Lg Ry rfl ?_; intro e3; refine Zk ?_; exact Yd rfl ⟨e3, rfl, rfl⟩ (Wo (by repeat constructor)) (by show [(34, vs 0)] = _; rw [d7])
    · rintro vs es Es Hx -; refine Zz (D := []) rfl ?_; refine Zd Za ?_; refine Zk ?_; exact Yd rfl ⟨rfl, rfl⟩ (Yb _) rfl
    · rintro vs es Es Hx ⟨⟨c8, g2⟩, -⟩; refine Zz (D := [(36, vs 2)]) rfl ?_; rw [c8]; refine Z18 t0 Zf Xg Yf Lg Ry rfl ?_; intro d1; refine Zk ?_; exact Yd rfl ⟨d1, rfl, rfl⟩ (Wo (by repeat constructor)) (by show [(36, vs 2)] = _; rw [c8])
    · rintro vs es Es Hx -; refine Zz (D := []) rfl ?_; refine Zd Za ?_; refine Zk ?_; exact Yd rfl ⟨rfl, rfl⟩ (Yb _) rfl
    · rintro vs es Es Hx ⟨⟨e8, h8⟩, -⟩; refine Zz (D := [(38, vs 4)]) rfl ?_; rw [e8]; refine Z18 t1 Zf Z4n Uk TWXS4.z2 TWXS4.b2 rfl ?_; intro e4; refine Zk ?_; exact Yd rfl ⟨e4, rfl, rfl⟩ (Wo (by repeat constructor)) (by show [(38, vs 4)] = _; rw [e8])
    · rintro vs es Es Hx -; refine Zz (D := []) rfl ?_; refine Zd Za ?_; refine Zk ?_; exact Yd rfl ⟨rfl, rfl⟩ (Yb _) rfl
    · rintro vs es Es Hx ⟨⟨d8, g8⟩, -⟩; refine Zz (D := [(40, vs 6)]) rfl ?_; rw [d8]; refine Z18 t2 Zf Xg Yf Lg Ry rfl ?_; intro e5; refine Zk ?_; exact Yd rfl ⟨e5, rfl, rfl⟩ (Wo (by repeat constructor)) (by show [(40, vs 6)] = _; rw [d8])
    · rintro vs es Es Hx -; refine Zz (D := []) rfl ?_; refine Zd Za ?_; refine Zk ?_; exact Yd rfl ⟨rfl, rfl⟩ (Yb _) rfl
    · rintro vs es Es Hx ⟨⟨f4, h9⟩, -⟩; refine Zz (D := [(42, vs 8)]) rfl ?_; rw [f4]; refine TO.mkB t3 Zf Zcd Wy TWXS4.z4 TWXS4.b4 rfl ?_; intro f6; refine Zk ?_; exact Yd rfl ⟨f6, rfl, rfl⟩ (Wo (by repeat constructor)) (by show [(42, vs 8)] = _; rw [f4])
    · rintro vs es Es Hx -; refine Zz (D := []) rfl ?_; refine Zi Za Nc ?_; refine Zk ?_; exact Yd rfl ⟨rfl, rfl⟩ (Yb _) rfl
    · rintro vs es Es Hx hb ⟨⟨e3, c9, d6⟩, ⟨g9, h0⟩, -⟩ hHR; obtain rfl : hb = [(eC a9 #[iV n0.N, iV n0.S, iV n0.T, sV a2 a4 a5, .slice none 0 0, .slice none 0 0, .slice none 0 0, .slice none 0 0, .slice none 0 0] 29)] := hHR; refine Zz (D := [(35, vs 1), (44, vs 10)]) rfl ?_; rw [c9, g9]; refine Kd (H := _ ++ (_ ++ ((es 1 ++ (es 10 ++ ([]))) ++ _))) rfl ?_; rw [d6, h0]; refine Yg (cs' := [iV n0.N, iV n0.S, iV n0.T, sV a2 a4 a5, nV e3 ((r8.getD n0.N.toNat 0).toNat) ((r8.getD n0.N.toNat 0).toNat), .slice none 0 0, .slice none 0 0, .slice none 0 0, .slice none 0 0]) Za Zb Z0v Zr ?_; rw [← c9]; refine Zk ?_; exact Jf (hb' := [(eC a9 #[iV n0.N, iV n0.S, iV n0.T, sV a2 a4 a5, (vs 1), .slice none 0 0, .slice none 0 0, .slice none 0 0, .slice none 0 0] 29)]) rfl rfl rfl (by show Pick (_ ++ (_ ++ ((es 1 ++ (es 10 ++ ([]))) ++ _))) _; rw [d6, h0]; exact Wo (by repeat constructor)) (by show [(35, vs 1), (44, vs 10)] = _; rw [g9])
    · rintro vs es Es Hx -; refine Zz (D := []) rfl ?_; refine Zi Za Z2m ?_; refine Zk ?_; exact Yd rfl ⟨rfl, rfl⟩ (Yb _) rfl
    · rintro vs es Es Hx hb ⟨⟨d1, d9, e2⟩, ⟨h1, h2⟩, -⟩ hHR; obtain rfl : hb = [(eC a9 #[iV n0.N, iV n0.S, iV n0.T, sV a2 a4 a5, (vs 1), .slice none 0 0, .slice none 0 0, .slice none 0 0, .slice none 0 0] 29)] := hHR; refine Zz (D := [(37, vs 3), (45, vs 12)]) rfl ?_; rw [d9, h1]; refine Kd (H := _ ++ (_ ++ ((es 3 ++ (es 12 ++ ([]))) ++ _))) rfl ?_; rw [e2, h2]; refine Yg (cs' := [iV n0.N, iV n0.S, iV n0.T, sV a2 a4 a5, (vs 1), nV d1 ((r8.getD n0.N.toNat 0).toNat) ((r8.getD n0.N.toNat 0).toNat), .slice none 0 0, .slice none 0 0, .slice none 0 0]) Za Zb Z0v Zr ?_; rw [← d9]; refine Zk ?_; exact Jf (hb' := [(eC a9 #[iV n0.N, iV n0.S, iV n0.T, sV a2 a4 a5, (vs 1), (vs 3), .slice none 0 0, .slice none 0 0, .slice none 0 0] 29)]) rfl rfl rfl (by show Pick (_ ++ (_ ++ ((es 3 ++ (es 12 ++ ([]))) ++ _))) _; rw [e2, h2]; exact Wo (by repeat constructor)) (by show [(37, vs 3), (45, vs 12)] = _; rw [h1])
    · rintro vs es Es Hx -; refine Zz (D := []) rfl ?_; refine Zi Za Z5k ?_; refine Zk ?_; exact Yd rfl ⟨rfl, rfl⟩ (Yb _) rfl
    · rintro vs es Es Hx hb ⟨⟨e4, f1, f2⟩, ⟨h3, h4⟩, -⟩ hHR; obtain rfl : hb = [(eC a9 #[iV n0.N, iV n0.S, iV n0.T, sV a2 a4 a5, (vs 1), (vs 3), .slice none 0 0, .slice none 0 0, .slice none 0 0] 29)] := hHR; refine Zz (D := [(39, vs 5), (46, vs 14)]) rfl ?_; rw [f1, h3]; refine Kd (H := _ ++ (_ ++ ((es 5 ++ (es 14 ++ ([]))) ++ _))) rfl ?_; rw [f2, h4]; refine Yg (cs' := [iV n0.N, iV n0.S, iV n0.T, sV a2 a4 a5, (vs 1), (vs 3), nV e4 ((r8.getD n0.N.toNat 0).toNat) ((r8.getD n0.N.toNat 0).toNat), .slice none 0 0, .slice none 0 0]) Za Zb Zp1 Zr ?_; rw [← f1]; refine Zk ?_; exact Jf (hb' := [(eC a9 #[iV n0.N, iV n0.S, iV n0.T, sV a2 a4 a5, (vs 1), (vs 3), (vs 5), .slice none 0 0, .slice none 0 0] 29)]) rfl rfl rfl (by show Pick (_ ++ (_ ++ ((es 5 ++ (es 14 ++ ([]))) ++ _))) _; rw [f2, h4]; exact Wo (by repeat constructor)) (by show [(39, vs 5), (46, vs 14)] = _; rw [h3])
    · rintro vs es Es Hx -; refine Zz (D := []) rfl ?_; refine Zi Za Zev ?_; refine Zk ?_; exact Yd rfl ⟨rfl, rfl⟩ (Yb _) rfl
    · rintro vs es Es Hx hb ⟨⟨e5, e0, f3⟩, ⟨h5, h6⟩, -⟩ hHR; obtain rfl : hb = [(eC a9 #[iV n0.N, iV n0.S, iV n0.T, sV a2 a4 a5, (vs 1), (vs 3), (vs 5), .slice none 0 0, .slice none 0 0] 29)] := hHR; refine Zz (D := [(41, vs 7), (47, vs 16)]) rfl ?_; rw [e0, h5]; refine Kd (H := _ ++ (_ ++ ((es 7 ++ (es 16 ++ ([]))) ++ _))) rfl ?_; rw [f3, h6]; refine Yg (cs' := [iV n0.N, iV n0.S, iV n0.T, sV a2 a4 a5, (vs 1), (vs 3), (vs 5), nV e5 ((r8.getD n0.N.toNat 0).toNat) ((r8.getD n0.N.toNat 0).toNat), .slice none 0 0]) Za Zb Z0v Zr ?_; rw [← e0]; refine Zk ?_; exact Jf (hb' := [(eC a9 #[iV n0.N, iV n0.S, iV n0.T, sV a2 a4 a5, (vs 1), (vs 3), (vs 5), (vs 7), .slice none 0 0] 29)]) rfl rfl rfl (by show Pick (_ ++ (_ ++ ((es 7 ++ (es 16 ++ ([]))) ++ _))) _; rw [f3, h6]; exact Wo (by repeat constructor)) (by show [(41, vs 7), (47, vs 16)] = _; rw [h5])
   ·
    rintro vs es hb ⟨⟨d7, g6⟩, ⟨e3, c9, d6⟩, ⟨c8, g2⟩, ⟨d1, d9, e2⟩, ⟨e8, h8⟩, ⟨e4, f1, f2⟩, ⟨d8, g8⟩, ⟨e5, e0, f3⟩, ⟨f4, h9⟩, ⟨f6, m1, j5⟩, ⟨g9, h0⟩, m2, ⟨h1, h2⟩, m3, ⟨h3, h4⟩, m4, ⟨h5, h6⟩, m5, -⟩ hHR; obtain rfl : hb = [(eC a9 #[iV n0.N, iV n0.S, iV n0.T, sV a2 a4 a5, (vs 1), (vs 3), (vs 5), (vs 7), .slice none 0 0] 29)] := hHR; refine Zz (D := [(34, vs 0), (35, vs 1), (36, vs 2), (37, vs 3), (38, vs 4), (39, vs 5), (40, vs 6), (41, vs 7), (42, vs 8), (43, vs 9), (44, vs 10), (45, vs 12), (46, vs 14), (47, vs 16)]) rfl ?_; refine Kd (H := _ ++ (_ ++ (es 0 ++ (es 1 ++ (es 2 ++ (es 3 ++ (es 4 ++ (es 5 ++ (es 6 ++ (es 7 ++ (es 8 ++ (es 9 ++ (es 10 ++ (es 11 ++ (es 12 ++ (es 13 ++ (es 14 ++ (es 15 ++ (es 16 ++ (es 17 ++ ([]))))))))))))))))))))) rfl ?_; rw [g6, d6, g2, e2, h8, f2, g8, f3, h9, j5, h0, m2, h2, m3, h4, m4, h6, m5]; rw [d7, c9, c8, d9, e8, f1, d8, e0, f4, m1, g9, h1, h3, h5]; clear h5 h3 h1 g9 m1 f4 e0 d8 f1 e8 d9 c8 c9 d7 g6 d6 g2 e2 h8 f2 g8 f3 h9 j5 h0 m2 h2 m3 h4 m4 h6 m5; refine Zi Za Zf0 ?_; refine Yg (cs' := [iV n0.N, iV n0.S, iV n0.T, sV a2 a4 a5, nV e3 ((r8.getD n0.N.toNat 0).toNat) ((r8.getD n0.N.toNat 0).toNat), nV d1 ((r8.getD n0.N.toNat 0).toNat) ((r8.getD n0.N.toNat 0).toNat), nV e4 ((r8.getD n0.N.toNat 0).toNat) ((r8.getD n0.N.toNat 0).toNat), nV e5 ((r8.getD n0.N.toNat 0).toNat) ((r8.getD n0.N.toNat 0).toNat), nV f6 ((r8.getD n0.N.toNat 0).toNat) ((r8.getD n0.N.toNat 0).toNat)]) Za Zb Zi1 Zr ?_; refine dN ?_; refine Zq (aT [1, 2, 5] rfl) ?_; refine Zl ?_; obtain ⟨t4, t5, H⟩ := Zj H; refine rG Y5 rfl ?_; refine Zi Za Nr ?_; refine Zn Za Wr Zh rfl ?_; refine Ya Zo0 Za (fun wc hwc => Zow (s0 := r8) wc (Uw hwc Vv d3 d4 d5) t5) ?_; rintro _ _ ⟨h7, n40, o7, r7, rfl, rfl, o8, m6, m7, m8⟩; refine TO.alloc Zr Zcv ?_; intro o9; refine Yg (cs' := [sV h7 n40 o7]) Za Zb Z0v Zr ?_; refine dN ?_; refine sR Y2 rfl ?_; refine TO.makeFunc Zf ?_; refine aN Za ?_; refine Zl ?_; refine sR Y4 rfl ?_; refine Zi Za Np ?_; refine Zn Za Ll Jl rfl ?_; refine Vn (xs := n0.Arcs) b9.len Zf Ut ?_; refine Zd Za ?_; refine dN ?_; refine Zcq (fun (f7 f8 f9 g0 : List Int) (g1 : List Bool) => Z6r n0 r8 f7 f8 f9 g0 g1 = some (r0, r1) ∧ f7.length = (r8.getD n0.N.toNat 0).toNat ∧ f8.length = (r8.getD n0.N.toNat 0).toNat ∧ f9.length = (r8.getD n0.N.toNat 0).toNat ∧ g0.length = (r8.getD n0.N.toNat 0).toNat ∧ g1.length = (r8.getD n0.N.toNat 0).toNat) (fun (f7 f8 f9 g0 : List Int) (g1 : List Bool) => [(2, pV b3), (5, pV a9)]) (fun (f7 f8 f9 g0 : List Int) (g1 : List Bool) => [(eC b3 #[iV 0, iV 0, iV 0, .slice none 0 0, .slice none 0 0, .slice none 0 0, .slice none 0 0, .slice none 0 0, .slice none 0 0] 29), (eC a9 #[iV n0.N, iV n0.S, iV n0.T, sV a2 a4 a5, nV e3 ((r8.getD n0.N.toNat 0).toNat) ((r8.getD n0.N.toNat 0).toNat), nV d1 ((r8.getD n0.N.toNat 0).toNat) ((r8.getD n0.N.toNat 0).toNat), nV e4 ((r8.getD n0.N.toNat 0).toNat) ((r8.getD n0.N.toNat 0).toNat), nV e5 ((r8.getD n0.N.toNat 0).toNat) ((r8.getD n0.N.toNat 0).toNat), nV f6 ((r8.getD n0.N.toNat 0).toNat) ((r8.getD n0.N.toNat 0).toNat)] 29), (eI a2 r8 f5 3), (eI (some e3) f7 ([]) 3), (eI (some d1) f8 ([]) 3), (eI (some e4) f9 ([]) 2), (eI (some e5) g0 ([]) 3), (eA (some f6) boolC g1 ([]) 4)]) ?_ ?_
    ·
     refine T.block ?_; obtain ⟨t6, d6, t7⟩ := Zj H; refine Zf4 (fun (l7 : Nat) (b5 a3 b6 b7 : List Int) (b8 : List Bool) (c7 : List Int) (c4 : Int) => Wb (fun s => Z4j n0 r8 s.1 s.2.1 s.2.2.1 s.2.2.2.1 s.2.2.2.2.1 s.2.2.2.2.2.1 s.2.2.2.2.2.2) l7 (b5, a3, b6, b7, b8, c7, c4) = some t6 ∧ b5.length = (r8.getD n0.N.toNat 0).toNat ∧ a3.length = (r8.getD n0.N.toNat 0).toNat ∧ b6.length = (r8.getD n0.N.toNat 0).toNat ∧ b7.length = (r8.getD n0.N.toNat 0).toNat ∧ b8.length = (r8.getD n0.N.toNat 0).toNat ∧ c7.length = n40) (fun (l7 : Nat) (b5 a3 b6 b7 : List Int) (b8 : List Bool) (c7 : List Int) (c4 : Int) => [(2, pV b3), (5, pV a9), (8, .func (.func 110) #[] #[pV o9, pV a9]), (54, .slice a7 a6 a8), (55, iV (n0.Arcs.length : Int)), (56, iV c4)]) (fun (l7 : Nat) (b5 a3 b6 b7 : List Int) (b8 : List Bool) (c7 : List Int) (c4 : Int) => [(eC b3 #[iV 0, iV 0, iV 0, .slice none 0 0, .slice none 0 0, .slice none 0 0, .slice none 0 0, .slice none 0 0, .slice none 0 0] 29), (eC a9 #[iV n0.N, iV n0.S, iV n0.T, sV a2 a4 a5, nV e3 ((r8.getD n0.N.toNat 0).toNat) ((r8.getD n0.N.toNat 0).toNat), nV d1 ((r8.getD n0.N.toNat 0).toNat) ((r8.getD n0.N.toNat 0).toNat), nV e4 ((r8.getD n0.N.toNat 0).toNat) ((r8.getD n0.N.toNat 0).toNat), nV e5 ((r8.getD n0.N.toNat 0).toNat) ((r8.getD n0.N.toNat 0).toNat), nV f6 ((r8.getD n0.N.toNat 0).toNat) ((r8.getD n0.N.toNat 0).toNat)] 29), (eI a2 r8 f5 3), (eI (some e3) b5 ([]) 3), (eI (some d1) a3 ([]) 3), (eI (some e4) b6 ([]) 2), (eI (some e5) b7 ([]) 3), (eA (some f6) boolC b8 ([]) 4), (eC o9 #[sV h7 n40 o7] 25), (eI h7 c7 r7 3)]) (fun (l7 : Nat) (b5 a3 b6 b7 : List Int) (b8 : List Bool) (c7 : List Int) (c4 : Int) => l7) Xn (List.replicate ((r8.getD n0.N.toNat 0).toNat) (0 : Int)) (List.replicate ((r8.getD n0.N.toNat 0).toNat) (0 : Int)) (List.replicate ((r8.getD n0.N.toNat 0).toNat) (0 : Int)) (List.replicate ((r8.getD n0.N.toNat 0).toNat) (0 : Int)) (List.replicate ((r8.getD n0.N.toNat 0).toNat) (false : Bool)) t4 0 ⟨d6, List.length_replicate, List.length_replicate, List.length_replicate, List.length_replicate, List.length_replicate, o8⟩ (aF rfl) (Zc Yl (Zc Zy (Zc Yl (Zc Yl (Zc Yl (Zc Yl (Zc Yl (Zc Yl (Zc Zb (Zc Zb Zg)))))))))) ?_; rintro l7 b5 a3 b6 b7 b8 c7 c4 ⟨H, l3, e7, l4, l5, l6, m9⟩; obtain ⟨r9, t8, rfl, H, p1⟩ := Kg H; have H : Z4j n0 r8 b5 a3 b6 b7 b8 c7 c4 = some t8 := H; unfold Z4j at H; refine sR Y1 rfl ?_; refine Yc Zw ?_; refine dS ?_; rcases Zt H with ⟨p2, H⟩ | ⟨p2, H⟩
     ·
      refine Wc rfl p2 ?_; refine T.skip ?_; refine Yk ?_; refine Zl ?_; refine T.block ?_; obtain ⟨s1, H⟩ := Yj H; refine sR Y6 rfl ?_; refine Zd Za ?_; refine Kx b9 s1 Zf Ut Kv ?_; refine Z15 (cs := [iV ((n0.Arcs.getD c4.toNat default).fr), iV ((n0.Arcs.getD c4.toNat default).to), iV ((n0.Arcs.getD c4.toNat default).cap)]) default b9 s1 Zf Ri ?_; refine Xw Zr Z0d ?_; intro t9; refine Wu Za ?_; refine Xl Za Zb Kv Zr ?_; refine dS ?_; refine sR Y5 rfl ?_; refine Zi Za Rr ?_; refine Zn Za Zo Zh rfl ?_; refine Zi Za Z0i ?_; refine Zn Za Zo Zh rfl ?_; refine Yc Zw ?_; refine dN ?_; refine Zq (aT [2, 5, 8, 54, 55, 56, 10, 9, 65] rfl) ?_; rcases Zt H with ⟨p3, H⟩ | ⟨p3, H⟩
      · refine Wc rfl p3 ?_; refine T.exit ?_; refine Wk ?_; refine Ud ?_; refine Yk ?_; obtain ⟨u1, H⟩ := Yj H; refine rG Y2 rfl ?_; refine Xf u1 Zf ?_; refine Zd Za ?_; refine Zk ?_; have H := Uc H p1; exact Z8r r9 b5 a3 b6 b7 b8 c7 (c4 + 1) ⟨H, l3, e7, l4, l5, l6, m9⟩ (Nat.lt_succ_self _) (aF rfl) (Zc Zp (Zc Zp (Zc Zp (Zc Zp (Zc Zp (Zc Zp (Zc Zp (Zc Zp (Zc Zp (Zc Zp Zg))))))))))
      ·
       refine Wa rfl p3 ?_; refine T.skip ?_; refine Yk ?_; refine Zl ?_; obtain ⟨⟨n6, u2, o6⟩, u3, H⟩ := Zj H; refine rG Y10 rfl ?_; refine Zd Za ?_; refine Zi Za Rr ?_; refine Zn Za Zo Zh rfl ?_; refine Zi Za Z0i ?_; refine Zn Za Zo Zh rfl ?_; refine Zi Za Z0l ?_; refine Zn Za Wd Zh rfl ?_; refine Zd Za ?_; refine Xq Zdt Zf (Ze Kz (Ze Kz (Ze Zy (Ze Yl (Ze Wp (Ze Wp (Ze Wp (Gone.refl _)))))))) rfl (fun wc hwc => Zf2 (from0 := (n0.Arcs.getD c4.toNat default).fr) (to1 := (n0.Arcs.getD c4.toNat default).to) (most2 := (n0.Arcs.getD c4.toNat default).cap) (arc3 := c4) (back4 := false) (c5 := c7) (c6 := (Csr.mk n0.N n0.S n0.T r8 b5 a3 b6 b7 b8)) wc (hwc.self (Zc Kz (Zc Kz (Zc Zy (Zc Yl (Zc Wp (Zc Wp (Zc Wp Zg))))))) rfl) m9 m6 m7 m8 (hwc.rsM (f := iC) (s := 1) (xs := r8) (j := f5) (fun _ => rfl) (Ze Kz (Ze Kz (Ze Zy (Ze Yl (Ze Wp (Ze Wp (Ze Wp (Gone.refl _)))))))) rfl Xb d3 d4 d5) l3 (Nat.le_refl _) (Ve _ _) Vh (hwc.rsM (f := iC) (s := 1) (xs := a3) (j := ([])) (fun _ => rfl) (Ze Kz (Ze Kz (Ze Zy (Ze Yl (Ze Wp (Ze Wp (Ze Wp (Gone.refl _)))))))) rfl Vv e7 (Nat.le_refl _) Vh) l4 (Nat.le_refl _) (Ve _ _) Vh l5 (Nat.le_refl _) (Ve _ _) Vh l6 (Nat.le_refl _) (Ve _ _) Vh u3) ?_; rintro _ _ ⟨rfl, rfl, p4, p5, p6, p7, p8⟩; refine aN Za ?_; refine Zq (aT [2, 5, 8, 54, 55, 56, 10, 9, 11] rfl) ?_; refine Zl ?_; obtain ⟨⟨n7, s6, j6⟩, u4, H⟩ := Zj H; refine rG Y8 rfl ?_; refine Zd Za ?_; refine Zi Za Z0i ?_; refine Zn Za Zo mm7 rfl ?_; refine Zi Za Rr ?_; refine Zn Za Zo mm7 rfl ?_; refine Zd Za ?_; refine Xq Zdt Zf (Ze Zb (Ze Zb (Ze Zb (Ze Zb (Ze Zb (Ze Zb (Ze Zb (Gone.refl _)))))))) rfl (fun wc hwc => Zf2 (from0 := (n0.Arcs.getD c4.toNat default).to) (to1 := (n0.Arcs.getD c4.toNat default).fr) (most2 := 0) (arc3 := c4) (back4 := true) (c5 := u2) (c6 := (Csr.mk n0.N n0.S n0.T r8 o6.Head a3 o6.Cap o6.Arc o6.Back)) wc (hwc.self (Zc Zb (Zc Zb (Zc Zb (Zc Zb (Zc Zb (Zc Zb (Zc Zb Zg))))))) rfl) p4 m6 m7 m8 (hwc.rsM (f := iC) (s := 1) (xs := r8) (j := f5) (fun _ => rfl) (Ze Zb (Ze Zb (Ze Zb (Ze Zb (Ze Zb (Ze Zb (Ze Zb (Gone.refl _)))))))) rfl Xb d3 d4 d5) p5 (Nat.le_refl _) (Ve _ _) Vh (hwc.rsM (f := iC) (s := 1) (xs := a3) (j := ([])) (fun _ => rfl) (Ze Zb (Ze Zb (Ze Zb (Ze Zb (Ze Zb (Ze Zb (Ze Zb (Gone.refl _)))))))) rfl Vv e7 (Nat.le_refl _) Vh) p6 (Nat.le_refl _) (Ve _ _) Vh p7 (Nat.le_refl _) (Ve _ _) Vh p8 (Nat.le_refl _) (Ve _ _) Vh u4) ?_; rintro _ _ ⟨rfl, rfl, p9, q0, q1, q2, q3⟩; refine aN Za ?_; refine Zq (aT [2, 5, 8, 54, 55, 56, 11, 12] rfl) ?_; obtain ⟨s7, s8, H⟩ := Vw H; apply Gw [rV [] _, rV [0] _, rV [] _, rV [] _, rV [3] _, rV [] _, rV [] _, rV [] _, rV [1, 2] _, ⟨[1, 2, 6, 8], true, [], Jc⟩] [82, 83, 84, 85, 86, 87, 88, 89, 90] 10 (HRk [[(eI (some d1) a3 ([]) 3)], [(eI (some d1) (a3.set n6.toNat n7) ([]) 3)]]) [[], []] [(eI (some d1) a3 ([]) 3)] [(eC o9 #[sV h7 n40 o7] 25), (eI h7 s6 r7 3), (eC a9 #[iV n0.N, iV n0.S, iV n0.T, sV a2 a4 a5, nV e3 ((r8.getD n0.N.toNat 0).toNat) ((r8.getD n0.N.toNat 0).toNat), nV d1 ((r8.getD n0.N.toNat 0).toNat) ((r8.getD n0.N.toNat 0).toNat), nV e4 ((r8.getD n0.N.toNat 0).toNat) ((r8.getD n0.N.toNat 0).toNat), nV e5 ((r8.getD n0.N.toNat 0).toNat) ((r8.getD n0.N.toNat 0).toNat), nV f6 ((r8.getD n0.N.toNat 0).toNat) ((r8.getD n0.N.toNat 0).toNat)] 29), (eI (some e3) j6.Head ([]) 3), (eI (some e4) j6.Cap ([]) 2), (eI (some e5) j6.Arc ([]) 3), (eA (some f6) boolC j6.Back ([]) 4), (eC t9 #[iV ((n0.Arcs.getD c4.toNat default).fr), iV ((n0.Arcs.getD c4.toNat default).to), iV ((n0.Arcs.getD c4.toNat default).cap)] 131), (eC b3 #[iV 0, iV 0, iV 0, .slice none 0 0, .slice none 0 0, .slice none 0 0, .slice none 0 0, .slice none 0 0, .slice none 0 0] 29), (eI a2 r8 f5 3)]
       · exact Yx
       · exact rfl
       · kernel_rfl
       · kernel_rfl
       · kernel_rfl
       · exact rfl
       · exact rfl
       · exact rfl
       · exact rfl
       · exact Wo (by repeat constructor)
       ·
        refine ⟨?_, ?_, ?_, ?_, ?_, ?_, ?_, ?_, ?_, ?_, trivial⟩
        · rintro vs es Es Hx -; refine Zz (D := []) rfl ?_; refine Zi Za Z2m ?_; refine Zk ?_; exact Yd rfl ⟨rfl, rfl⟩ (Yb _) rfl
        · rintro vs es Es Hx ⟨⟨d7, g6⟩, -⟩; refine Zz (D := [(82, vs 0)]) rfl ?_; rw [d7]; refine Zn Za Wr Xb rfl ?_; refine Zk ?_; exact Yd rfl ⟨rfl, rfl⟩ (Yb _) (by show [(82, vs 0)] = _; rw [d7])
        · rintro vs es Es Hx -; refine Zz (D := []) rfl ?_; refine Zd Za ?_; refine Zk ?_; exact Yd rfl ⟨rfl, rfl⟩ (Yb _) rfl
        · rintro vs es Es Hx -; refine Zz (D := []) rfl ?_; refine Zi Za Z2m ?_; refine Zk ?_; exact Yd rfl ⟨rfl, rfl⟩ (Yb _) rfl
        · rintro vs es Es Hx ⟨⟨d9, e2⟩, -⟩; refine Zz (D := [(85, vs 3)]) rfl ?_; rw [d9]; refine Zn Za Wr Xb rfl ?_; refine Zk ?_; exact Yd rfl ⟨rfl, rfl⟩ (Yb _) (by show [(85, vs 3)] = _; rw [d9])
        · rintro vs es Es Hx -; refine Zz (D := []) rfl ?_; refine Zd Za ?_; refine Zk ?_; exact Yd rfl ⟨rfl, rfl⟩ (Yb _) rfl
        · rintro vs es Es Hx -; refine Zz (D := []) rfl ?_; refine Zd Za ?_; refine Zk ?_; exact Yd rfl ⟨rfl, rfl⟩ (Yb _) rfl
        · rintro vs es Es Hx -; refine Zz (D := []) rfl ?_; refine Zd Za ?_; refine Zk ?_; exact Yd rfl ⟨rfl, rfl⟩ (Yb _) rfl
        · rintro vs es Es Hx ⟨⟨c9, d6⟩, ⟨c8, g2⟩, -⟩; refine Zz (D := [(83, vs 1), (84, vs 2)]) rfl ?_; rw [c9, c8]; refine Nq e7 s7 Zf Xg Yf ?_; refine Zk ?_; exact Yd rfl ⟨rfl, rfl⟩ (Yb _) (by show [(83, vs 1), (84, vs 2)] = _; rw [c9, c8])
        · rintro vs es Es Hx hb ⟨⟨c9, d6⟩, ⟨c8, g2⟩, ⟨d8, g8⟩, ⟨f4, h9⟩, -⟩ hHR; obtain rfl : hb = [(eI (some d1) a3 ([]) 3)] := hHR; refine Zz (D := [(83, vs 1), (84, vs 2), (88, vs 6), (90, vs 8)]) rfl ?_; rw [c9, c8, d8, f4]; refine Z0a s7 Za Zb Yf ?_; refine Zk ?_; exact Jf (hb' := [(eI (some d1) (a3.set n6.toNat n7) ([]) 3)]) rfl rfl rfl (Wo (by repeat constructor)) (by show [(83, vs 1), (84, vs 2), (88, vs 6), (90, vs 8)] = _; rw [c9, c8, d8, f4])
       · rintro vs es hb ⟨⟨d7, g6⟩, ⟨c9, d6⟩, ⟨c8, g2⟩, ⟨d9, e2⟩, ⟨e8, h8⟩, ⟨f1, f2⟩, ⟨d8, g8⟩, ⟨e0, f3⟩, ⟨f4, h9⟩, j5, -⟩ hHR; obtain rfl : hb = [(eI (some d1) (a3.set n6.toNat n7) ([]) 3)] := hHR; refine Zz (D := [(82, vs 0), (83, vs 1), (84, vs 2), (85, vs 3), (86, vs 4), (87, vs 5), (88, vs 6), (89, vs 7), (90, vs 8)]) rfl ?_; refine Kd (H := _ ++ (_ ++ (es 0 ++ (es 1 ++ (es 2 ++ (es 3 ++ (es 4 ++ (es 5 ++ (es 6 ++ (es 7 ++ (es 8 ++ (es 9 ++ ([]))))))))))))) rfl ?_; rw [g6, d6, g2, e2, h8, f2, g8, f3, h9, j5]; rw [d7, c9, c8, d9, e8, f1, d8, e0, f4]; clear f4 e0 d8 f1 e8 d9 c8 c9 d7 g6 d6 g2 e2 h8 f2 g8 f3 h9 j5; refine Nq (List.length_set.trans e7) s8 Zf Xg Yf ?_; refine Z0a s8 Za Zb Yf ?_; refine Zk ?_; refine Wq ?_; refine Yk ?_; refine Zq (aT [2, 5, 8, 54, 55, 56] rfl) ?_; obtain ⟨u5, H⟩ := Yj H; refine rG Y2 rfl ?_; refine Xf u5 Zf ?_; refine Zd Za ?_; refine Zk ?_; have H := Uc H p1; exact Z8r r9 j6.Head ((a3.set n6.toNat n7).set n7.toNat n6) j6.Cap j6.Arc j6.Back s6 (c4 + 1) ⟨H, q0, (List.length_set.trans (List.length_set.trans e7)), q1, q2, q3, p9⟩ (Nat.lt_succ_self _) (aF rfl) (Zc Kz (Zc Yl (Zc tk8 (Zc Yl (Zc Zb (Zc Zy (Zc Zy (Zc Zy (Zc Zb (Zc Zb Zg))))))))))
     · refine Wa rfl p2 ?_; refine T.exit ?_; refine Wk ?_; have H := Vt H p1 ▸ t7; refine Wk ?_; refine Ud ?_; exact Zfs b5 a3 b6 b7 b8 ⟨H, l3, e7, l4, l5, l6⟩ (aF rfl) (Zc Zb (Zc Zb (Zc Zb (Zc Zb (Zc Zb (Zc Zb (Zc Zb (Zc Zb Zg))))))))
    · rintro f7 f8 f9 g0 g1 ⟨H, q4, q5, q6, q7, q8⟩; unfold Z6r at H; refine sR Y3 rfl ?_; refine Xy Za Z2f Yy rfl ?_; refine Xl Za Zb Z60 Zr ?_; refine aN Za ?_; refine T.ret ?_; obtain ⟨rfl, rfl⟩ := ret2 H; exact Ky Za (Vr rfl Z2f Zh rfl) (Res.tmp rfl) (Zc Zy (Zc Zy (Zc Zy (Zc Zy (Zc Zy (Zc Zy Zg)))))) ⟨a2, a4, a5, f5, (some e3), ((r8.getD n0.N.toNat 0).toNat), ((r8.getD n0.N.toNat 0).toNat), ([]), (some d1), ((r8.getD n0.N.toNat 0).toNat), ((r8.getD n0.N.toNat 0).toNat), ([]), (some e4), ((r8.getD n0.N.toNat 0).toNat), ((r8.getD n0.N.toNat 0).toNat), ([]), (some e5), ((r8.getD n0.N.toNat 0).toNat), ((r8.getD n0.N.toNat 0).toNat), ([]), (some f6), ((r8.getD n0.N.toNat 0).toNat), ((r8.getD n0.N.toNat 0).toNat), ([]), rfl, rfl, d3, d4, j4, d5, q4, (Nat.le_refl _), (Ve _ _), Vh, q5, (Nat.le_refl _), (Ve _ _), Vh, q6, (Nat.le_refl _), (Ve _ _), Vh, q7, (Nat.le_refl _), (Ve _ _), Vh, q8, (Nat.le_refl _), (Ve _ _), Vh⟩
end Go.Proofs.YtobnnpdfeakbbaaGreat.Ax
namespace Go.Proofs.YtobnnpdfeakbbaaGreat.Ax
open Go Go.Acq Go.RowKit Go.Proofs
set_option maxHeartbeats 8000000
set_option maxRecDepth 20000
theorem Zkg {a0 b1 : List Int} {a8 a4 : Option Addr} {a5 a7 a3 a6 : Nat} (w : World) (a2 : RS w [] iC 1 a8 a5 a7 a0) (a9 : RS w [] iC 1 a4 a3 a6 b1) {r0 : Bool} (H : Zbd a0 b1 = some r0) : Fnc Tryz.prog 63 #[.slice a8 a5 a7, .slice a4 a3 a6] w [] (fun v N => v = .bool r0 ∧ N = []) := by
 unfold Zbd at H; refine Fnc.enter (vs := [.slice a8 a5 a7, .slice a4 a3 a6]) Tryz.func63 rfl rfl (Inv.refl w) ?_; refine sR Y1 rfl ?_; refine aN Za ?_; refine Zl ?_; refine sR Y5 rfl ?_; refine Zd Za ?_; refine Vn (xs := a0) a2.len Zf Xg ?_; refine Zd Za ?_; refine Vn (xs := b1) a9.len Zf Xg ?_; refine Yc Zw ?_; refine dN ?_; rcases Zt H with ⟨g1, H⟩ | ⟨g1, H⟩
 · refine Wc rfl g1 ?_; refine sR Y1 rfl ?_; refine aN Za ?_; refine T.ret ?_; refine Yv ?_; obtain rfl := ret1 H; exact Zu Za (Res.tmp rfl) Zg ⟨rfl, rfl⟩
 ·
  refine Wa rfl g1 ?_; refine T.skip ?_; refine Yk ?_; refine Zl ?_; refine sR Y3 rfl ?_; refine Zd Za ?_; refine Vn (xs := a0) a2.len Zf Xg ?_; refine Zd Za ?_; refine dN ?_; refine Vi (fun (u8 : Unit) => Zaw = some r0) (fun (u8 : Unit) => []) (fun (u8 : Unit) => []) ?_ ?_
  ·
   refine T.block ?_; obtain ⟨b8, b9, b7⟩ := Zj H; refine Z8h (fun (b5 : Nat) (x2 : Int) => Wb (fun s => Z7r a0 b1 s) b5 x2 = some b8) (fun (b5 : Nat) (x2 : Int) => [(0, .slice a8 a5 a7), (1, .slice a4 a3 a6), (12, iV (a0.length : Int)), (13, iV x2)]) (fun (b5 : Nat) (x2 : Int) => []) (fun (b5 : Nat) (x2 : Int) => b5) Xn 0 b9 (aF rfl) Zg ?_; rintro b5 x2 H; obtain ⟨c4, c7, rfl, H, b6⟩ := Kg H; have H : Z7r a0 b1 x2 = some c7 := H; unfold Z7r at H; refine sR Y1 rfl ?_; refine Yc Zw ?_; refine dS ?_; rcases Zt H with ⟨g3, H⟩ | ⟨g3, H⟩
   ·
    refine Wc rfl g3 ?_; refine T.skip ?_; refine Yk ?_; refine Zl ?_; refine T.block ?_; refine sR Y2 rfl ?_; refine Zd Za ?_; refine aN Za ?_; refine Zl ?_; obtain ⟨g4, g5, H⟩ := Vw H; apply Zcl [(16, _), (17, _), (18, _), (19, _), (20, _), (21, _), (22, _), (23, _)]
    · exact Yx
    · kernel_rfl
    · kernel_rfl
    · exact rfl
    · exact rfl
    ·
     refine ⟨?_, ?_, ?_, ?_, ?_, ?_, ?_, ?_, trivial⟩
     · intro Es; refine Zd Za ?_; exact Zk (X.ob rfl (Yb _))
     · intro Es; refine Zd Za ?_; exact Zk (X.ob rfl (Yb _))
     · intro Es; refine Kx a2 g4 Zf Xg Yf ?_; exact Zk (X.ob rfl (Yb _))
     · intro Es; refine Z6w a2 g4 Za Zo ?_; exact Zk (X.ob rfl (Yb _))
     · intro Es; refine Zd Za ?_; exact Zk (X.ob rfl (Yb _))
     · intro Es; refine Zd Za ?_; exact Zk (X.ob rfl (Yb _))
     · intro Es; refine Kx a9 g5 Zf Xg Yf ?_; exact Zk (X.ob rfl (Yb _))
     · intro Es; refine Z6w a9 g5 Za Zo ?_; exact Zk (X.ob rfl (Yb _))
    refine Yc Zw ?_; refine dN ?_; refine Zq (aT [0, 1, 12, 13, 24] rfl) ?_; rcases Zt H with ⟨g6, H⟩ | ⟨g6, H⟩
    · refine Wc rfl g6 ?_; refine sR Y1 rfl ?_; refine aN Za ?_; refine T.ret ?_; refine Vo ?_; refine Yv ?_; have H := Vt H b6 ▸ b7; refine Yv ?_; refine Vo ?_; refine Yv ?_; obtain rfl := ret1 H; exact Zu Za (Res.tmp rfl) Zg ⟨rfl, rfl⟩
    · refine Wa rfl g6 ?_; refine T.skip ?_; refine Wq ?_; refine Yk ?_; obtain ⟨g7, H⟩ := Yj H; refine rG Y2 rfl ?_; refine Xf g7 Zf ?_; refine Zd Za ?_; refine Zk ?_; have H := Uc H b6; exact Z6c c4 (x2 + 1) H (Nat.lt_succ_self _) (aF rfl) Zg
   · refine Wa rfl g3 ?_; refine T.exit ?_; refine Wk ?_; have H := Vt H b6 ▸ b7; refine Wk ?_; refine Ud ?_; exact Wj () H Vu Zg
  · rintro u8 H; unfold Zaw at H; refine sR Y1 rfl ?_; refine aN Za ?_; refine T.ret ?_; obtain rfl := ret1 H; exact Zu Za (Res.tmp rfl) Zg ⟨rfl, rfl⟩
end Go.Proofs.YtobnnpdfeakbbaaGreat.Ax
