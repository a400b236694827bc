/- Plain law: what goes across a cut, by excesses; capacities. -/
import Derived.Test.YtcdbemdogkmahaaAcqL10
namespace Go.Acq
open Go
set_option linter.unusedSimpArgs false
/-- what the first k arcs bring the vertices below j that are not in -/
def partC (al : List Arc) (f : List Int) (c : List Bool) (j : Int) : Nat → Int
  | 0 => 0
  | k + 1 => partC al f c j k - (if (al.getD k default).fr < j ∧ inS c (al.getD k default).fr = false then f.getD k 0 else 0) + (if (al.getD k default).to < j ∧ inS c (al.getD k default).to = false then f.getD k 0 else 0)
theorem partC_succ {al : List Arc} {f : List Int} {c : List Bool} (j : Int) : ∀ k, partC al f c (j + 1) k = partC al f c j k + (if inS c j = false then ex al f j k else 0)
  | 0 => by simp [partC, ex]
  | k + 1 => by
    have ih := partC_succ (al := al) (f := f) (c := c) j k
    simp only [partC, ex, ih]
    have e1 : ∀ x : Int, (if x < j + 1 ∧ inS c x = false then f.getD k 0 else 0) = (if x < j ∧ inS c x = false then f.getD k 0 else 0) + (if x = j ∧ inS c j = false then f.getD k 0 else 0) := fun x => by
      by_cases h1 : x < j
      · by_cases h3 : inS c x = false
        · rw [if_pos ⟨by omega, h3⟩, if_pos ⟨h1, h3⟩, if_neg (fun h => by omega)]; omega
        · rw [if_neg (fun h => h3 h.2), if_neg (fun h => h3 h.2), if_neg (fun h => by omega)]; omega
      · by_cases h2 : x = j
        · subst h2
          by_cases h3 : inS c x = false
          · rw [if_pos ⟨by omega, h3⟩, if_neg (fun h => h1 h.1), if_pos ⟨rfl, h3⟩]; omega
          · rw [if_neg (fun h => h3 h.2), if_neg (fun h => h3 h.2), if_neg (fun h => h3 h.2)]; omega
        · rw [if_neg (fun h => by omega), if_neg (fun h => by omega), if_neg (fun h => h2 h.1)]; omega
    rw [e1, e1]
    by_cases h : inS c j = false
    · simp only [h, and_true, if_true]
      omega
    · simp only [h, Bool.not_eq_false, and_false, if_false, ite_false, reduceCtorEq]
      omega
theorem partC_none {al : List Arc} {f : List Int} {c : List Bool} {m : Nat} (he : endsOK m al) : ∀ k, k ≤ al.length → partC al f c 0 k = 0
  | 0, _ => rfl
  | k + 1, hk => by
    have h0 := he k hk false
    have h1 := he k hk true
    simp only [vtx, Bool.false_eq_true, if_false, if_true] at h0 h1
    simp only [partC, partC_none he k (by omega)]
    rw [if_neg (fun h => by omega), if_neg (fun h => by omega)]; rfl
theorem partC_all {al : List Arc} {f : List Int} {c : List Bool} {m : Nat} (he : endsOK m al) : ∀ k, k ≤ al.length → partC al f c m k = acK al f c k
  | 0, _ => rfl
  | k + 1, hk => by
    have h0 := he k hk false
    have h1 := he k hk true
    simp only [vtx, Bool.false_eq_true, if_false, if_true] at h0 h1
    simp only [partC, acK, partC_all he k (by omega)]
    obtain ⟨A, hA⟩ : ∃ A, al.getD k default = A := ⟨_, rfl⟩
    obtain ⟨F, hF⟩ : ∃ F, f.getD k 0 = F := ⟨_, rfl⟩
    rw [hA] at h0 h1 ⊢
    rw [hF]
    cases a : inS c A.fr <;> cases b : inS c A.to <;> simp [h0.2, h1.2] <;> omega
/-- what goes across is no more than the capacity, and as much just if all is tight -/
theorem acK_cap {al : List Arc} {f : List Int} {c : List Bool} (h : ∀ i, i < al.length → 0 ≤ f.getD i 0 ∧ f.getD i 0 ≤ (al.getD i default).cap) : ∀ k, k ≤ al.length → acK al f c k ≤ capK al c k ∧ (acK al f c k = capK al c k ↔ ∀ i, i < k → tightA al f c i)
  | 0, _ => ⟨Int.le_refl _, fun _ i hi => by omega, fun _ => rfl⟩
  | k + 1, hk => by
    obtain ⟨g1, g2⟩ := acK_cap (c := c) h k (by omega)
    have hf := h k (by omega)
    have key : (∀ i, i < k + 1 → tightA al f c i) ↔ (∀ i, i < k → tightA al f c i) ∧ tightA al f c k :=
      ⟨fun hh => ⟨fun i hi => hh i (by omega), hh k (by omega)⟩, fun hh i hi => by
        rcases Nat.lt_or_ge i k with h1 | h1
        · exact hh.1 i h1
        · rw [show i = k by omega]; exact hh.2⟩
    rw [key, ← g2]
    simp only [acK, capK, tightA]
    obtain ⟨A, hA⟩ : ∃ A, al.getD k default = A := ⟨_, rfl⟩
    obtain ⟨F, hF⟩ : ∃ F, f.getD k 0 = F := ⟨_, rfl⟩
    rw [hA, hF] at hf
    rw [hA, hF]
    cases a : inS c A.fr <;> cases b : inS c A.to <;> simp <;> omega
/-- a flow's worth goes across each cut -/
theorem flow_across {n : Net} {f : List Int} {c : List Bool} {m : Nat} (hm : n.N = m) (he : endsOK m n.Arcs) (hA : AllP n f (fun x => x = 0) [n.S, n.T]) (hc : CutR n c) : acK n.Arcs f c n.Arcs.length = ex n.Arcs f n.T n.Arcs.length := by
  have hz := checkE_zero hc.1
  simp only [vertexB, decide_eq_true_eq] at hz
  have hj : ∀ j : Nat, j ≤ m → partC n.Arcs f c j n.Arcs.length = if n.T < j then ex n.Arcs f n.T n.Arcs.length else 0 := by
    intro j
    induction j with
    | zero => intro _; rw [show ((0 : Nat) : Int) = 0 from rfl, partC_none he _ (Nat.le_refl _), if_neg (by omega)]
    | succ j ih =>
      intro hj
      rw [Int.natCast_succ, partC_succ, ih (by omega)]
      by_cases c1 : n.T = j
      · rw [← c1, if_neg (by omega), if_pos hc.2.2.2, if_pos (by omega)]; omega
      · have hz : (if inS c j = false then ex n.Arcs f j n.Arcs.length else 0) = 0 := by
          by_cases c2 : inS c j = false
          · rw [if_pos c2]
            rcases hA.2 j (by omega) with h7 | h7
            · exact h7
            · simp only [List.mem_cons, List.not_mem_nil, or_false] at h7
              rcases h7 with h7 | h7
              · rw [h7, hc.2.2.1] at c2; cases c2
              · exact absurd h7.symm c1
          · rw [if_neg c2]
        rw [hz]
        by_cases c3 : n.T < j
        · rw [if_pos c3, if_pos (by omega)]; omega
        · rw [if_neg c3, if_neg (by omega)]; rfl
  have := hj m (Nat.le_refl _)
  rw [partC_all he _ (Nat.le_refl _), if_pos (by omega)] at this
  exact this
end Go.Acq
