/- Plain models of functions: partial computations, guards, loops with fuel; what a success says. -/
import Derived.Test.YtcdbemdogkmahaaAcqPure
namespace Go.Acq
open Go
/-- an int64 -/
abbrev i64ok (x : Int) : Prop := -9223372036854775808 ≤ x ∧ x ≤ 9223372036854775807
/-- an index of a row -/
abbrev inb (i : Int) (n : Nat) : Prop := 0 ≤ i ∧ i < (n : Int)
/-- a slice that is made -/
abbrev mkok (p : Int) : Prop := 0 ≤ p ∧ p ≤ 4294967296
/-- append: the model asks for room -/
abbrev apok (n by' : Nat) : Prop := n * by' ≤ 140737488355328 ∧ n ≤ 4611686018427387904
/-- a guard -/
def gd {α : Type} (c : Prop) [Decidable c] (m : Option α) : Option α := if c then m else none
theorem gd_some {α : Type} {c : Prop} [Decidable c] {m : Option α} {o : α} (h : gd c m = some o) : c ∧ m = some o := by
  unfold gd at h; split at h
  · exact ⟨by assumption, h⟩
  · cases h
theorem gd_pos {α : Type} {c : Prop} [Decidable c] {m : Option α} (h : c) : gd c m = m := if_pos h
theorem bd_some {α β : Type} {m : Option α} {k : α → Option β} {o : β} (h : Option.bind m k = some o) : ∃ a, m = some a ∧ k a = some o := by
  cases m with
  | none => cases h
  | some a => exact ⟨a, rfl, h⟩
theorem ite_some {α : Type} {c : Prop} [Decidable c] {a b : Option α} {o : α} (h : (if c then a else b) = some o) : (c ∧ a = some o) ∨ (¬c ∧ b = some o) := by
  split at h
  · exact .inl ⟨by assumption, h⟩
  · exact .inr ⟨by assumption, h⟩
def loopM {S O : Type} (step : S → Option (S ⊕ O)) : Nat → S → Option O
  | 0, _ => none
  | n + 1, s => match step s with
    | none => none
    | some (.inl s') => loopM step n s'
    | some (.inr o) => some o
/-- so many rounds at most -/
def FUEL : Nat := 18446744073709551616
/-- behind a round -/
def afterM {S O : Type} (step : S → Option (S ⊕ O)) (n : Nat) (o : O) : S ⊕ O → Prop
  | .inl s => loopM step n s = some o
  | .inr p => p = o
theorem loopM_some {S O : Type} {step : S → Option (S ⊕ O)} {n : Nat} {s : S} {o : O} (h : loopM step n s = some o) : ∃ n' r, n = n' + 1 ∧ step s = some r ∧ afterM step n' o r := by
  cases n with
  | zero => cases h
  | succ n =>
    simp only [loopM] at h
    cases hs : step s with
    | none => rw [hs] at h; cases h
    | some r =>
      rw [hs] at h
      cases r with
      | inl s' => exact ⟨n, _, rfl, rfl, h⟩
      | inr p => exact ⟨n, _, rfl, rfl, by simpa [afterM] using h⟩
theorem loop_next {S O : Type} {step : S → Option (S ⊕ O)} {n : Nat} {o : O} {s : S} {r : S ⊕ O} (h : some (.inl s) = some r) (c : afterM step n o r) : loopM step n s = some o := by
  injection h with h; subst h; exact c
theorem ret1 {α : Type} {a b : α} (h : some a = some b) : b = a := by injection h with h; exact h.symm
theorem ret2 {α β : Type} {a a' : α} {b b' : β} (h : some (a, b) = some (a', b')) : a' = a ∧ b' = b := by injection h with h; injection h with h1 h2; exact ⟨h1.symm, h2.symm⟩
theorem ret3 {α β γ : Type} {a a' : α} {b b' : β} {c c' : γ} (h : some (a, b, c) = some (a', b', c')) : a' = a ∧ b' = b ∧ c' = c := by
  injection h with h; injection h with h1 h; injection h with h2 h3; exact ⟨h1.symm, h2.symm, h3.symm⟩
/-! ### showing that a computation succeeds -/
def Ok {α : Type} (m : Option α) (Q : α → Prop) : Prop := ∃ a, m = some a ∧ Q a
theorem Ok.some {α : Type} {a : α} {Q : α → Prop} : Ok (Option.some a) Q ↔ Q a := ⟨fun ⟨b, h, hq⟩ => by injection h with h; subst h; exact hq, fun h => ⟨a, rfl, h⟩⟩
theorem Ok.gd {α : Type} {c : Prop} [Decidable c] {m : Option α} {Q : α → Prop} : Ok (Acq.gd c m) Q ↔ c ∧ Ok m Q := by
  constructor
  · rintro ⟨a, h, hq⟩; obtain ⟨h1, h2⟩ := gd_some h; exact ⟨h1, a, h2, hq⟩
  · rintro ⟨h1, a, h2, hq⟩; exact ⟨a, by rw [gd_pos h1]; exact h2, hq⟩
theorem Ok.bind {α β : Type} {m : Option α} {k : α → Option β} {Q : β → Prop} : Ok (Option.bind m k) Q ↔ Ok m fun a => Ok (k a) Q := by
  constructor
  · rintro ⟨b, h, hq⟩; obtain ⟨a, h1, h2⟩ := bd_some h; exact ⟨a, h1, b, h2, hq⟩
  · rintro ⟨a, h1, b, h2, hq⟩; exact ⟨b, by rw [h1]; exact h2, hq⟩
theorem Ok.ite {α : Type} {c : Prop} [Decidable c] {a b : Option α} {Q : α → Prop} : Ok (if c then a else b) Q ↔ (c → Ok a Q) ∧ (¬c → Ok b Q) := by
  by_cases h : c <;> simp [h]
theorem Ok.mono {α : Type} {m : Option α} {Q R : α → Prop} (h : Ok m Q) (hq : ∀ a, Q a → R a) : Ok m R := by
  obtain ⟨a, h1, h2⟩ := h; exact ⟨a, h1, hq a h2⟩
theorem Ok.of {α : Type} {m : Option α} {a : α} {Q : α → Prop} (h : m = Option.some a) (hq : Q a) : Ok m Q := ⟨a, h, hq⟩
/-- a loop: an invariant, a measure -/
theorem Ok.loop {S O : Type} {step : S → Option (S ⊕ O)} {n : Nat} {s0 : S} {Q : O → Prop} (I : S → Prop) (μ : S → Nat) (h0 : I s0) (hn : μ s0 < n)
    (hstep : ∀ s, I s → Ok (step s) fun r => match r with | .inl s' => I s' ∧ μ s' < μ s | .inr o => Q o) : Ok (loopM step n s0) Q := by
  induction n generalizing s0 with
  | zero => omega
  | succ n ih =>
    obtain ⟨r, h1, h2⟩ := hstep s0 h0
    simp only [loopM]
    rw [h1]
    cases r with
    | inl s' => exact ih h2.1 (by have := h2.2; omega)
    | inr o => exact ⟨o, rfl, h2⟩
end Go.Acq
namespace Go.Acq
theorem loop_exitE {S O : Type} {step : S → Option (S ⊕ O)} {n : Nat} {o p : O} {r : S ⊕ O} (h : some (.inr p) = some r) (c : afterM step n o r) : o = p := by
  injection h with h; subst h; exact Eq.symm c
end Go.Acq
namespace Go.Acq
/-- copy(xs, ys) -/
def cpy {α : Type} (xs ys : List α) : List α := ys.take xs.length ++ xs.drop ys.length
theorem cpy_len {α : Type} {n : Nat} {xs ys : List α} (h : xs.length = n) : (cpy xs ys).length = n := by
  unfold cpy; rw [List.length_append, List.length_take, List.length_drop]; omega
end Go.Acq
namespace Go.Acq
end Go.Acq
namespace Go.Acq
theorem lenApp0 {α : Type} {ys : List α} {m : Nat} (g : ys.length = m) : ys.length = 0 + m := by rw [g, Nat.zero_add]
end Go.Acq
namespace Go.Acq
end Go.Acq
namespace Go.Acq
/-- a loop: an invariant, a measure; the round's end is told by what it may lead to -/
theorem Ok.lp {S O : Type} {step : S → Option (S ⊕ O)} {n : Nat} {s0 : S} {Q : O → Prop} (I : S → Prop) (μ : S → Nat) (h0 : I s0) (hn : μ s0 < n)
    (hstep : ∀ s, I s → ∀ P : S ⊕ O → Prop, (∀ s', I s' → μ s' < μ s → P (.inl s')) → (∀ o, Q o → P (.inr o)) → Ok (step s) P) : Ok (loopM step n s0) Q :=
  Ok.loop I μ h0 hn fun s hs => hstep s hs _ (fun s' h1 h2 => ⟨h1, h2⟩) (fun o h => h)
end Go.Acq
namespace Go.Acq
/-- yield, upon what has come so far -/
def yieldM {S X V : Type} (y : S → V → Option (S ⊕ X)) (t : S ⊕ X) (v : V) : Option (S ⊕ X) := match t with | .inl s => y s v | .inr _ => none
theorem yieldM_some {S X V : Type} {y : S → V → Option (S ⊕ X)} {t r : S ⊕ X} {v : V} (h : yieldM y t v = some r) : ∃ s, t = .inl s ∧ y s v = some r := by
  cases t with
  | inl s => exact ⟨s, rfl, h⟩
  | inr x => cases h

end Go.Acq
