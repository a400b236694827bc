/- Plain law: nets that are made right. -/
import Derived.Test.YtcdbemdogkmahaaAcqCsrLaw
namespace Go.Acq
open Go
theorem next_ne {S m : Int} (h0 : 0 ≤ S) (h1 : S < m) (h2 : 2 ≤ m) : 0 ≤ (S + 1).tmod m ∧ (S + 1).tmod m < m ∧ (S + 1).tmod m ≠ S := by
  rw [Int.tmod_eq_emod_of_nonneg (by omega)]
  refine ⟨Int.emod_nonneg _ (by omega), Int.emod_lt_of_pos _ (by omega), ?_⟩
  by_cases h : S + 1 < m
  · rw [Int.emod_eq_of_lt (by omega) h]; omega
  · rw [show S + 1 = m by omega, Int.emod_self]; omega
theorem tmod_range {x n : Int} (h : 0 ≤ x) (hn : 0 < n) : 0 ≤ x.tmod n ∧ x.tmod n < n := by
  rw [Int.tmod_eq_emod_of_nonneg h]
  exact ⟨Int.emod_nonneg _ (by omega), Int.emod_lt_of_pos _ hn⟩
/-- arcs made right -/
def SomeAt (m : Nat) (ol : List Arc) : Prop := ∀ a, a ∈ ol → endsB m a = true ∧ 0 ≤ a.cap ∧ a.cap < 1125899906842624
theorem SomeAt.put {m : Nat} {ol : List Arc} {a : Arc} (h : SomeAt m ol) (h1 : 0 ≤ a.fr ∧ a.fr < m) (h2 : 0 ≤ a.to ∧ a.to < m) (h3 : 0 ≤ a.cap ∧ a.cap < 1125899906842624) : SomeAt m (ol ++ [a]) := by
  intro b hb
  rcases List.mem_append.1 hb with hb | hb
  · exact h b hb
  · simp only [List.mem_singleton] at hb
    subst hb
    exact ⟨by simp [endsB, vertexB, h1, h2], h3⟩
theorem sumL_some {m : Nat} {ol : List Arc} {left : Int} (h : SomeAt m ol) (hl : (ol.length : Int) * 1125899906842624 ≤ left) : (sumL left ol).isSome = true := by
  induction ol generalizing left with
  | nil => simp [sumL]
  | cons a ol ih =>
    have ha := (h a (.head _)).2
    simp only [List.length_cons] at hl
    have h2 : (0 : Int) ≤ (ol.length : Int) * 1125899906842624 := by omega
    simp only [sumL]
    rw [if_neg (by omega)]
    exact ih (fun b hb => h b (.tail _ hb)) (by omega)
theorem some_check {m : Nat} {S T : Int} {ol : List Arc} (hm : 2 ≤ m) (hm2 : m ≤ 4096) (hS : 0 ≤ S ∧ S < m) (hT : 0 ≤ T ∧ T < m) (hST : T ≠ S) (h : SomeAt m ol) (hl : ol.length ≤ 4096) : checkE m S T ol = 0 := by
  have h1 : ol.all (endsB m) = true := List.all_eq_true.2 fun a ha => (h a ha).1
  have h2 : ol.all capB = true := List.all_eq_true.2 fun a ha => by simp [capB, (h a ha).2.1]
  have h3 : (sumL 4611686018427387904 ol).isSome = true := sumL_some h (by omega)
  unfold checkE
  rw [if_neg (by omega), if_neg (by omega), if_neg (by simp [vertexB, hS, hT, Ne.symm hST]), if_neg (by simp [h1]), if_neg (by simp [h2]), if_neg (by
    cases e : sumL 4611686018427387904 ol with
    | none => rw [e] at h3; cases h3
    | some x => simp)]
/-- numbers that are brought within: behind k arcs -/
def WithinAt (al : List Arc) (n k : Nat) (fl : List Int) : Prop := fl.length = n ∧
  (∀ i, i < k → 0 ≤ fl.getD i 0 ∧ fl.getD i 0 ≤ (al.getD i default).cap ∧ ((al.getD i default).fr = (al.getD i default).to → fl.getD i 0 = 0)) ∧ ∀ i, k ≤ i → fl.getD i 0 = 0
theorem WithinAt.start (al : List Arc) (n : Nat) : WithinAt al n 0 (List.replicate n 0) := ⟨by simp, fun i h => by omega, fun i _ => getD_replicate _ _ _⟩
theorem WithinAt.skip {al : List Arc} {n k : Nat} {fl : List Int} (h : WithinAt al n k fl) (hc : 0 ≤ (al.getD k default).cap) : WithinAt al n (k + 1) fl := by
  refine ⟨h.1, fun i hi => ?_, fun i hi => h.2.2 i (by omega)⟩
  rcases Nat.lt_succ_iff_lt_or_eq.1 hi with h1 | h1
  · exact h.2.1 i h1
  · subst h1; have := h.2.2 i (Nat.le_refl _); rw [this]; exact ⟨Int.le_refl _, hc, fun _ => rfl⟩
theorem WithinAt.put {al : List Arc} {n k : Nat} {fl : List Int} {v : Int} (h : WithinAt al n k fl) (hk : k < n) (h0 : 0 ≤ v) (h1 : v ≤ (al.getD k default).cap) (hne : (al.getD k default).fr ≠ (al.getD k default).to) : WithinAt al n (k + 1) (fl.set k v) := by
  refine ⟨by simpa using h.1, fun i hi => ?_, fun i hi => by rw [lset_ne (by omega)]; exact h.2.2 i (by omega)⟩
  by_cases e : i = k
  · subst e; rw [lset_eq (by rw [h.1]; exact hk)]; exact ⟨h0, h1, fun e => absurd e hne⟩
  · rw [lset_ne (by omega)]; exact h.2.1 i (by omega)
/-- what is left: the numbers at one place, are they right -/
def resOK (aa cs : List Int) (bs : List Bool) (fl : List Int) (j : Nat) : Prop := aa.getD j 0 < fl.length ∧ (bs.getD j false = true ∨ (0 ≤ fl.getD (aa.getD j 0).toNat 0 ∧ fl.getD (aa.getD j 0).toNat 0 ≤ cs.getD j 0))
def resV (aa cs : List Int) (bs : List Bool) (fl : List Int) (j : Nat) : Int := if bs.getD j false = true then fl.getD (aa.getD j 0).toNat 0 else cs.getD j 0 - fl.getD (aa.getD j 0).toNat 0
def ResAt (aa cs : List Int) (bs : List Bool) (fl : List Int) (L k : Nat) (rl : List Int) : Prop := rl.length = L ∧ ∀ j, j < k → resOK aa cs bs fl j ∧ rl.getD j 0 = resV aa cs bs fl j
theorem ResAt.put {aa cs : List Int} {bs : List Bool} {fl : List Int} {L k : Nat} {rl : List Int} {v : Int} (h : ResAt aa cs bs fl L k rl) (hk : k < L) (h1 : resOK aa cs bs fl k) (h2 : v = resV aa cs bs fl k) : ResAt aa cs bs fl L (k + 1) (rl.set k v) := by
  refine ⟨by simpa using h.1, fun j hj => ?_⟩
  by_cases e : j = k
  · subst e; rw [lset_eq (by rw [h.1]; exact hk)]; exact ⟨h1, h2⟩
  · rw [lset_ne (by omega)]; exact h.2 j (by omega)
end Go.Acq
