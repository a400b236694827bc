/- Plain law: excesses, flows, preflows. -/
import Derived.Test.YtcdbemdogkmahaaAcqL02
import Derived.Test.YtcdbemdogkmahaaAcqMS3
namespace Go.Acq
open Go
set_option linter.unusedSimpArgs false
/-- all that the first k arcs bear -/
def tot (f : List Int) : Nat → Int
  | 0 => 0
  | k + 1 => tot f k + f.getD k 0
/-- what the first k arcs bring the vertices below j -/
def part (al : List Arc) (f : List Int) (j : Int) : Nat → Int
  | 0 => 0
  | k + 1 => part al f j k - (if (al.getD k default).fr < j then f.getD k 0 else 0) + (if (al.getD k default).to < j then f.getD k 0 else 0)
theorem tot_mono {f : List Int} {n : Nat} (h : ∀ i, i < n → 0 ≤ f.getD i 0) : ∀ j k, j ≤ k → k ≤ n → tot f j ≤ tot f k
  | j, 0, hj, _ => by have : j = 0 := by omega
                      subst this; exact Int.le_refl _
  | j, k + 1, hj, hk => by
    rcases Nat.lt_or_ge j (k + 1) with h1 | h1
    · have := tot_mono h j k (by omega) (by omega)
      have := h k hk
      simp only [tot]; omega
    · rw [show j = k + 1 by omega]; exact Int.le_refl _
theorem sumL_tot {f : List Int} : ∀ (al : List Arc) (left : Int) (k : Nat), (sumL left (al.drop k)).isSome = true → 0 ≤ left → k ≤ al.length → (∀ i, i < al.length → 0 ≤ f.getD i 0 ∧ f.getD i 0 ≤ (al.getD i default).cap) → tot f al.length - tot f k ≤ left := by
  intro al left k
  induction hn : al.length - k generalizing left k with
  | zero =>
    intro _ h0 hk _
    rw [show k = al.length by omega]; omega
  | succ n ih =>
    intro hs h0 hk hf
    have hkl : k < al.length := by omega
    rw [sumL_drop hkl] at hs
    by_cases hc : (al.getD k default).cap < 0 ∨ left < (al.getD k default).cap
    · rw [if_pos hc] at hs; cases hs
    · rw [if_neg hc] at hs
      have := ih (left - (al.getD k default).cap) (k + 1) (by omega) hs (by omega) (by omega) hf
      have hfk := hf k hkl
      simp only [tot] at this
      omega
/-- the numbers are within the capacities of a right net -/
def FwithinP (n : Net) (f : List Int) : Prop := checkE n.N n.S n.T n.Arcs = 0 ∧ f.length = n.Arcs.length ∧ ∀ i, i < n.Arcs.length → 0 ≤ f.getD i 0 ∧ f.getD i 0 ≤ (n.Arcs.getD i default).cap
theorem FwithinP.tot {n : Net} {f : List Int} (h : FwithinP n f) : ∀ k, k ≤ n.Arcs.length → 0 ≤ tot f k ∧ tot f k ≤ 4611686018427387904 := by
  intro k hk
  have hz := checkE_zero h.1
  have h1 := sumL_tot (f := f) n.Arcs 4611686018427387904 0 (by simpa using hz.2.2.2.2.2) (by omega) (by omega) h.2.2
  have h2 := tot_mono (fun i hi => (h.2.2 i hi).1) k n.Arcs.length hk (Nat.le_refl _)
  have h3 := tot_mono (fun i hi => (h.2.2 i hi).1) 0 k (by omega) hk
  simp only [Acq.tot] at h1 h3
  omega
theorem s_FWithin {n : Net} {f : List Int} (hl : lenok n.Arcs.length) : Ok (m_flow_Within n f) (fun b => b = true ↔ FwithinP n f) := by
  unfold m_flow_Within
  refine Ok.bind.2 (ok_of (s_Check n hl) (Ok.ite.2 ⟨fun h => Ok.some.2 ⟨fun h2 => (by cases h2), fun h2 => absurd h2.1 h⟩, fun h1 => Ok.ite.2 ⟨fun h => Ok.some.2 ⟨fun h2 => (by cases h2), fun h2 => absurd h2.2.1 (by omega)⟩, fun h2 => Ok.bind.2 ?_⟩⟩))
  have hz := checkE_zero (Classical.not_not.1 h1)
  refine Ok.lp (fun x => ∃ k : Nat, x = k ∧ k ≤ n.Arcs.length ∧ ∀ i, i < k → 0 ≤ f.getD i 0 ∧ f.getD i 0 ≤ (n.Arcs.getD i default).cap) (fun x => (n.Arcs.length - x).toNat) ⟨0, rfl, by omega, fun i hi => by omega⟩ (by unfold FUEL; omega) ?_
  rintro x ⟨k, rfl, hk, h3⟩ P next exit
  unfold m_flow_Within_s1
  simp only [Int.toNat_natCast]
  refine Ok.ite.2 ⟨fun hx => ?_, fun hx => ?_⟩
  · refine Ok.gd.2 ⟨(by (first | omega | (constructor <;> omega) | (simp only [List.length_set, List.length_replicate]; omega) | (simp only [List.length_set, List.length_replicate]; constructor <;> omega))), Ok.gd.2 ⟨(by (first | omega | (constructor <;> omega) | (simp only [List.length_set, List.length_replicate]; omega) | (simp only [List.length_set, List.length_replicate]; constructor <;> omega))), Ok.ite.2 ⟨fun h => Ok.some.2 (exit _ (Ok.some.2 ⟨fun h2 => (by cases h2), fun h2 => by have := h2.2.2 k (by omega); omega⟩)), fun h4 => Ok.gd.2 ⟨(by (first | omega | (constructor <;> omega) | (simp only [List.length_set, List.length_replicate]; omega) | (simp only [List.length_set, List.length_replicate]; constructor <;> omega))), Ok.ite.2 ⟨fun h => Ok.some.2 (exit _ (Ok.some.2 ⟨fun h2 => (by cases h2), fun h2 => by have := h2.2.2 k (by omega); omega⟩)), fun h5 => Ok.gd.2 ⟨(by (first | omega | (constructor <;> omega) | (simp only [List.length_set, List.length_replicate]; omega) | (simp only [List.length_set, List.length_replicate]; constructor <;> omega))), Ok.some.2 (next _ ⟨k + 1, by simp, by omega, fun i hi => ?_⟩ (by omega))⟩⟩⟩⟩⟩⟩
    rcases Nat.lt_or_ge i k with h | h
    · exact h3 i h
    · rw [show i = k by omega]; omega
  · refine Ok.some.2 (exit _ ?_)
    unfold m_flow_Within_j2
    exact Ok.some.2 ⟨fun _ => ⟨Classical.not_not.1 h1, by omega, fun i hi => h3 i (by omega)⟩, fun _ => rfl⟩
theorem bool_of_not {b : Bool} (h : ¬(!b) = true) : b = true := by cases b; exact absurd rfl h; rfl
end Go.Acq
